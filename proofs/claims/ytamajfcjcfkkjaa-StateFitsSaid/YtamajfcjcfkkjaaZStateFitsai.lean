/- The law StateFits holds for every input: the walk over its code shows that the call returns true and that what was read stays as it was; the row follows. -/
import Derived.Test.YtamajfcjcfkkjaaRows
import Derived.WalkKit
import Derived.ProofKit
import Derived.OpenShut
import Derived.ShutString
import Derived.ChangeOld
import Derived.Below
import Derived.SizedLaws
import Derived.Test.YtamajfcjcfkkjaaZStateFitsaa
import Derived.Test.YtamajfcjcfkkjaaZStateFitsab
import Derived.Test.YtamajfcjcfkkjaaZStateFitsae
import Derived.Test.YtamajfcjcfkkjaaZStateFitsaf
import Derived.Test.YtamajfcjcfkkjaaZStateFitsag
import Derived.Test.YtamajfcjcfkkjaaZStateFitsah
section
/- The first state of any declarations, and whether a state fits them: the plain law of StateFits. -/
namespace Go.Proofs.Ytamajfcjcfkkjaa.RPure
open Go.RowKit Go.Proofs.Ytamajfcjcfkkjaa.PSt Go.Proofs.Ytamajfcjcfkkjaa.Given Go.Proofs.YtamajfcjcfkkjaaW.PrintWords Go.Proofs.YtamajfcjcfkkjaaW.PrintLast Go.Proofs.YtamajfcjcfkkjaaW.PrintMore
set_option linter.unusedVariables false
set_option linter.unusedSimpArgs false
/-- A variable's first values. -/
def firstF (x : S60) : List Int := List.replicate (mx 0 (mn x.f2 16)).toNat x.f4
theorem mx16 (n : Int) : 0 ≤ mx 0 (mn n 16) ∧ mx 0 (mn n 16) ≤ 16 ∧ ((mx 0 (mn n 16)).toNat : Int) = (if n < 0 then 0 else if n < 16 then n else 16) := by
  unfold mx mn
  refine ⟨?_, ?_, ?_⟩ <;> (repeat' split) <;> omega
theorem mx16lt (n : Int) (j : Nat) : ((j : Int) < n ∧ (j : Int) < 16) ↔ j < (mx 0 (mn n 16)).toNat := by
  unfold mx mn
  (repeat' split) <;> omega
theorem snew_l0 (v : LV) (B : LI) (hv : v.length ≤ 1000) : ∀ m i k : Nat, i + m = v.length → m < k → state_New.l0 k v (v.length : Int) (i : Int) ((v.take i).map firstF) B 0 0 = some (v.map firstF, B, 0, 0) := by
  intro m
  induction m with
  | zero =>
    intro i k h1 h2
    obtain ⟨k, rfl⟩ : ∃ m, k = m + 1 := ⟨k - 1, by omega⟩
    rw [state_New.l0, if_neg (by omega), List.take_of_length_le (by omega)]
  | succ m ih =>
    intro i k h1 h2
    obtain ⟨k, rfl⟩ : ∃ m, k = m + 1 := ⟨k - 1, by omega⟩
    have hi : i < v.length := by omega
    obtain ⟨m0, m1, _⟩ := mx16 v[i].f2
    rw [state_New.l0, if_pos (by omega), if_pos (by omega), if_pos (by omega), rdV v i hi, slices_Repeat_int_int.f, if_pos ⟨rfl, m0, by omega⟩, Option.bind_some, if_pos (by rw [List.length_map, List.length_take]; omega), wn i (by omega)]
    have := ih (i + 1) k (by omega) (by omega)
    rw [List.take_succ_eq_append_getElem hi, List.map_append] at this
    exact this
theorem snew_is (v : LV) (b : LB) (hv : v.length ≤ 1000) (hb : b.length ≤ 1000) (k : Nat) (hk : v.length < k) : state_New.f k v b = some (v.map firstF, List.replicate b.length z69, 0, 0) := by
  unfold state_New.f
  rw [if_pos (by omega), if_pos (by omega), Int.toNat_natCast]
  exact snew_l0 v _ hv v.length 0 k (by omega) hk
theorem rnew_l2 (b : LB) (V : LL) (hb : b.length ≤ 1000) : ∀ m i k : Nat, i + m = b.length → m < k → ladderbackref23_New.l2 k b (i : Int) V (List.replicate i z69) 0 0 = some (V, List.replicate b.length z69, 0, 0) := by
  intro m
  induction m with
  | zero =>
    intro i k h1 h2
    obtain ⟨k, rfl⟩ : ∃ m, k = m + 1 := ⟨k - 1, by omega⟩
    rw [ladderbackref23_New.l2, if_neg (by omega), show i = b.length by omega]
  | succ m ih =>
    intro i k h1 h2
    obtain ⟨k, rfl⟩ : ∃ m, k = m + 1 := ⟨k - 1, by omega⟩
    rw [ladderbackref23_New.l2, if_pos (by omega), if_pos (by rw [List.length_replicate]; omega), wn i (by omega)]
    have := ih (i + 1) k (by omega) (by omega)
    rw [List.replicate_succ'] at this
    exact this
theorem rnew_l1 (v : LV) (b : LB) (i K : Nat) (acc : LL) (R : Option (LL × LI × Int × Int)) (hi : i < v.length) (hv : v.length ≤ 1000) (hacc : acc.length ≤ 1000)
    (hK : ∀ k, K ≤ k → ladderbackref23_New.l0 k v b ((i + 1 : Nat) : Int) (acc ++ [firstF v[i]]) 0 0 = R) :
    ∀ m j k : Nat, j + m = (mx 0 (mn v[i].f2 16)).toNat → K + m + 1 ≤ k → ladderbackref23_New.l1 k v b (i : Int) (List.replicate j v[i].f4) (j : Int) acc 0 0 = R := by
  obtain ⟨m0, m1, m2⟩ := mx16 v[i].f2
  intro m
  induction m with
  | zero =>
    intro j k h1 h2
    obtain ⟨k, rfl⟩ : ∃ m, k = m + 1 := ⟨k - 1, by omega⟩
    have hf : List.replicate j v[i].f4 = firstF v[i] := by unfold firstF; rw [show j = (mx 0 (mn v[i].f2 16)).toNat by omega]
    have hh := hK k (by omega)
    have hlt := mx16lt v[i].f2 j
    rw [ladderbackref23_New.l1, if_pos (by omega), if_pos (by omega), rdV v i hi, hf]
    by_cases c : (j : Int) < v[i].f2
    · rw [if_pos c, if_neg (by omega), if_pos (by omega), wn i (by omega)]; exact hh
    · rw [if_neg c, if_pos (by omega), wn i (by omega)]; exact hh
  | succ m ih =>
    intro j k h1 h2
    obtain ⟨k, rfl⟩ : ∃ m, k = m + 1 := ⟨k - 1, by omega⟩
    rw [ladderbackref23_New.l1, if_pos (by omega), if_pos (by omega), rdV v i hi, if_pos ((mx16lt v[i].f2 j).2 (by omega)).1, if_pos ((mx16lt v[i].f2 j).2 (by omega)).2, if_pos (by rw [List.length_replicate]; omega), wn j (by omega)]
    have := ih (j + 1) k (by omega) (by omega)
    rw [List.replicate_succ'] at this
    exact this
theorem rnew_l0 (v : LV) (b : LB) (hv : v.length ≤ 1000) (hb : b.length ≤ 1000) : ∀ m i k : Nat, i + m = v.length → m * 20 + 1100 ≤ k → ladderbackref23_New.l0 k v b (i : Int) ((v.take i).map firstF) 0 0 = some (v.map firstF, List.replicate b.length z69, 0, 0) := by
  intro m
  induction m with
  | zero =>
    intro i k h1 h2
    obtain ⟨k, rfl⟩ : ∃ m, k = m + 1 := ⟨k - 1, by omega⟩
    rw [ladderbackref23_New.l0, if_neg (by omega), List.take_of_length_le (by omega)]
    exact rnew_l2 b _ hb b.length 0 k (by omega) (by omega)
  | succ m ih =>
    intro i k h1 h2
    obtain ⟨k, rfl⟩ : ∃ m, k = m + 1 := ⟨k - 1, by omega⟩
    have hi : i < v.length := by omega
    obtain ⟨m0, m1, m2⟩ := mx16 v[i].f2
    rw [ladderbackref23_New.l0, if_pos (by omega)]
    exact rnew_l1 v b i (m * 20 + 1100) _ _ hi hv (by rw [List.length_map, List.length_take]; omega) (fun k hk => by
      have := ih (i + 1) k (by omega) hk
      rw [List.take_succ_eq_append_getElem hi, List.map_append] at this
      exact this) (mx 0 (mn v[i].f2 16)).toNat 0 k (by omega) (by omega)
theorem rnew_is (v : LV) (b : LB) (hv : v.length ≤ 100) (hb : b.length ≤ 1000) (k : Nat) (hk : 4000 ≤ k) : ladderbackref23_New.f k v b = some (v.map firstF, List.replicate b.length z69, 0, 0) := by
  unfold ladderbackref23_New.f
  exact rnew_l0 v b (by omega) hb v.length 0 k (by omega) (by omega)
/-- Do the values fit? -/
def fitV : LV → LL → Bool
  | x :: v, l :: V => decide ((l.length : Int) = x.f2) && l.all (inF x.f1) && fitV v V
  | _, _ => true
theorem fit_at (v : LV) (V : LL) (i : Nat) (h : i < v.length) (h2 : i < V.length) : fitV (v.drop i) (V.drop i) = (decide ((V[i].length : Int) = v[i].f2) && V[i].all (inF v[i].f1) && fitV (v.drop (i + 1)) (V.drop (i + 1))) := by
  rw [List.drop_eq_getElem_cons h, List.drop_eq_getElem_cons h2, fitV]
theorem fit_end (v : LV) (V : LL) : fitV (v.drop v.length) V = true := by rw [List.drop_length]; cases V <;> rfl
theorem sfit_l1 (v : LV) (V : LL) (B : LI) (n f : Int) (i K : Nat) (s : ByteArray) (t a2 a3 a4 : Int) (hi : i < v.length) (hv : v.length ≤ 1000) (h5 : i < V.length) (hl : V[i].length ≤ 100) (b : Bool)
    (hK : ∀ k, K ≤ k → state_Fits.l0 k v (v.length : Int) ((i + 1 : Nat) : Int) V B n f = some b) :
    ∀ m j k : Nat, j + m = V[i].length → K + m + 1 ≤ k → state_Fits.l1 k v (v.length : Int) (i : Int) V[i] (V[i].length : Int) (j : Int) V B n f s t a2 a3 a4 = some ((V[i].drop j).all (inF t) && b) := by
  intro m
  induction m with
  | zero =>
    intro j k h1 h2
    obtain ⟨k, rfl⟩ : ∃ m, k = m + 1 := ⟨k - 1, by omega⟩
    rw [state_Fits.l1, if_neg (by omega), wn i (by omega), hK k (by omega), List.drop_of_length_le (by omega)]
    rfl
  | succ m ih =>
    intro j k h1 h2
    obtain ⟨k, rfl⟩ : ∃ m, k = m + 1 := ⟨k - 1, by omega⟩
    have hj : j < V[i].length := by omega
    rw [state_Fits.l1, if_pos (by omega), if_pos (by omega), if_pos (by omega), kin_is, Option.bind_some, rdn _ j hj, wn j (by omega), ih (j + 1) k (by omega) (by omega), List.drop_eq_getElem_cons hj, List.all_cons]
    cases inF t V[i][j] <;> rfl
theorem sfit_l0 (v : LV) (V : LL) (B : LI) (n f : Int) (hv : v.length ≤ 1000) (hV : V.length = v.length) (hl : ∀ l ∈ V, l.length ≤ 100) : ∀ m i k : Nat, i + m = v.length → m * 103 + 2 ≤ k → state_Fits.l0 k v (v.length : Int) (i : Int) V B n f = some (fitV (v.drop i) (V.drop i)) := by
  intro m
  induction m with
  | zero =>
    intro i k h1 h2
    obtain ⟨k, rfl⟩ : ∃ m, k = m + 1 := ⟨k - 1, by omega⟩
    rw [state_Fits.l0, if_neg (by omega), show i = v.length by omega, fit_end]
  | succ m ih =>
    intro i k h1 h2
    obtain ⟨k, rfl⟩ : ∃ m, k = m + 1 := ⟨k - 1, by omega⟩
    have hi : i < v.length := by omega
    have h5 : i < V.length := by omega
    have hli := hl _ (List.getElem_mem h5)
    rw [state_Fits.l0, if_pos (by omega), if_pos (by omega), if_pos (by omega), if_pos (by omega), rdL V i h5, rdV v i hi, fit_at v V i hi h5]
    by_cases h : (V[i].length : Int) = v[i].f2
    · rw [if_pos h, decide_eq_true h, Bool.true_and]
      have := sfit_l1 v V B n f i (m * 103 + 2) v[i].f0 v[i].f1 v[i].f2 v[i].f3 v[i].f4 hi hv h5 hli _ (fun k hk => ih (i + 1) k (by omega) hk) V[i].length 0 k (by omega) (by omega)
      rw [List.drop_zero] at this
      exact this
    · rw [if_neg h, decide_eq_false h]; rfl
theorem rfit_l1 (v : LV) (V : LL) (B : LI) (n f : Int) (i K : Nat) (hi : i < v.length) (hv : v.length ≤ 1000) (h5 : i < V.length) (hl : V[i].length ≤ 100) (b : Bool)
    (hK : ∀ k, K ≤ k → ladderbackref23_Fits.l0 k v ((i + 1 : Nat) : Int) V B n f = some b) :
    ∀ m j k : Nat, j + m = V[i].length → K + m + 1 ≤ k → ladderbackref23_Fits.l1 k v (i : Int) (j : Int) V B n f = some ((V[i].drop j).all (inF v[i].f1) && b) := by
  intro m
  induction m with
  | zero =>
    intro j k h1 h2
    obtain ⟨k, rfl⟩ : ∃ m, k = m + 1 := ⟨k - 1, by omega⟩
    rw [ladderbackref23_Fits.l1, if_pos (by omega), if_pos (by omega), rdL V i h5, if_neg (by omega), wn i (by omega), hK k (by omega), List.drop_of_length_le (by omega)]
    rfl
  | succ m ih =>
    intro j k h1 h2
    obtain ⟨k, rfl⟩ : ∃ m, k = m + 1 := ⟨k - 1, by omega⟩
    have hj : j < V[i].length := by omega
    rw [ladderbackref23_Fits.l1, if_pos (by omega), if_pos (by omega), rdL V i h5, if_pos (by omega), if_pos (by omega), rright_is, Option.bind_some, rdV v i hi, rin_is, rdn _ j hj, wn j (by omega), ih (j + 1) k (by omega) (by omega), List.drop_eq_getElem_cons hj, List.all_cons]
    by_cases h : 1 ≤ v[i].f1 ∧ v[i].f1 ≤ 6
    · rw [if_pos (decide_eq_true h), if_pos (by omega), Option.bind_some]
      cases inF v[i].f1 V[i][j] <;> rfl
    · have : inF v[i].f1 V[i][j] = false := by unfold inF; rw [if_neg (by omega), if_neg (by omega), if_neg (by omega), if_neg (by omega), if_neg (by omega), decide_eq_false (by omega)]
      rw [if_neg (by simpa using h), this]; rfl
theorem rfit_l0 (v : LV) (V : LL) (B : LI) (n f : Int) (hv : v.length ≤ 1000) (hV : V.length = v.length) (hl : ∀ l ∈ V, l.length ≤ 100) : ∀ m i k : Nat, i + m = v.length → m * 103 + 2 ≤ k → ladderbackref23_Fits.l0 k v (i : Int) V B n f = some (fitV (v.drop i) (V.drop i)) := by
  intro m
  induction m with
  | zero =>
    intro i k h1 h2
    obtain ⟨k, rfl⟩ : ∃ m, k = m + 1 := ⟨k - 1, by omega⟩
    rw [ladderbackref23_Fits.l0, if_neg (by omega), show i = v.length by omega, fit_end]
  | succ m ih =>
    intro i k h1 h2
    obtain ⟨k, rfl⟩ : ∃ m, k = m + 1 := ⟨k - 1, by omega⟩
    have hi : i < v.length := by omega
    have h5 : i < V.length := by omega
    have hli := hl _ (List.getElem_mem h5)
    rw [ladderbackref23_Fits.l0, if_pos (by omega), if_pos (by omega), if_pos (by omega), rdL V i h5, rdV v i hi, fit_at v V i hi h5]
    by_cases h : (V[i].length : Int) = v[i].f2
    · rw [if_pos h, decide_eq_true h, Bool.true_and]
      have := rfit_l1 v V B n f i (m * 103 + 2) hi hv h5 hli _ (fun k hk => ih (i + 1) k (by omega) hk) V[i].length 0 k (by omega) (by omega)
      rw [List.drop_zero] at this
      exact this
    · rw [if_neg h, decide_eq_false h]; rfl
def fitsF (v : LV) (b : LB) (V : LL) (B : LI) (n f : Int) : Bool := if V.length = v.length ∧ B.length = b.length ∧ 0 ≤ n ∧ n ≤ 1099511627776 ∧ 0 ≤ f ∧ f ≤ 3 then fitV v V else false
theorem sfits_is (v : LV) (b : LB) (V : LL) (B : LI) (n f : Int) (hv : v.length ≤ 100) (hl : ∀ l ∈ V, l.length ≤ 100) (k : Nat) (hk : 12000 ≤ k) : state_Fits.f k v b V B n f = some (fitsF v b V B n f) := by
  obtain ⟨k, rfl⟩ : ∃ m, k = m + 1 := ⟨k - 1, by omega⟩
  have hj : state_Fits.j0 (k + 1) v true V B n f = some false := by rw [state_Fits.j0, if_pos rfl]
  unfold state_Fits.f fitsF
  by_cases h1 : V.length = v.length
  · rw [if_pos (by omega)]
    by_cases h2 : B.length = b.length
    · rw [if_pos (by omega)]
      by_cases h3 : n < 0
      · rw [if_pos h3, hj, if_neg (by omega)]
      rw [if_neg h3]
      by_cases h4 : n > 1099511627776
      · rw [if_pos h4, hj, if_neg (by omega)]
      rw [if_neg h4]
      by_cases h5 : f < 0
      · rw [if_pos h5, hj, if_neg (by omega)]
      rw [if_neg h5]
      by_cases h6 : f > 3
      · rw [decide_eq_true h6, hj, if_neg (by omega)]
      rw [decide_eq_false h6, state_Fits.j0, if_neg (by decide), if_pos ⟨h1, h2, by omega, by omega, by omega, by omega⟩]
      exact sfit_l0 v V B n f (by omega) h1 hl v.length 0 k (by omega) (by omega)
    · rw [if_neg (by omega), hj, if_neg (fun e => h2 e.2.1)]
  · rw [if_neg (by omega), hj, if_neg (fun e => h1 e.1)]
theorem rfits_is (v : LV) (b : LB) (V : LL) (B : LI) (n f : Int) (hv : v.length ≤ 100) (hl : ∀ l ∈ V, l.length ≤ 100) (k : Nat) (hk : 12000 ≤ k) : ladderbackref23_Fits.f k v b V B n f = some (fitsF v b V B n f) := by
  obtain ⟨k, rfl⟩ : ∃ m, k = m + 1 := ⟨k - 1, by omega⟩
  have hj : ladderbackref23_Fits.j0 (k + 1) v true V B n f = some false := by rw [ladderbackref23_Fits.j0, if_pos rfl]
  unfold ladderbackref23_Fits.f fitsF
  by_cases h1 : V.length = v.length
  · rw [if_pos (by omega)]
    by_cases h2 : B.length = b.length
    · rw [if_pos (by omega)]
      by_cases h3 : n < 0
      · rw [if_pos h3, hj, if_neg (by omega)]
      rw [if_neg h3]
      by_cases h4 : n > 1099511627776
      · rw [if_pos h4, hj, if_neg (by omega)]
      rw [if_neg h4]
      by_cases h5 : f < 0
      · rw [if_pos h5, hj, if_neg (by omega)]
      rw [if_neg h5]
      by_cases h6 : f > 3
      · rw [decide_eq_true h6, hj, if_neg (by omega)]
      rw [decide_eq_false h6, ladderbackref23_Fits.j0, if_neg (by decide), if_pos ⟨h1, h2, by omega, by omega, by omega, by omega⟩]
      exact rfit_l0 v V B n f (by omega) h1 hl v.length 0 k (by omega) (by omega)
    · rw [if_neg (by omega), hj, if_neg (fun e => h2 e.2.1)]
  · rw [if_neg (by omega), hj, if_neg (fun e => h1 e.1)]
/-- Are the variables right? -/
def varOk (x : S60) : Bool := inF x.f1 x.f4 && decide (1 ≤ x.f2 ∧ x.f2 ≤ 16)
theorem tab_ok {v : LV} {b : LB} (h : tabF v b = 0) : ∀ x ∈ v, varOk x = true := by
  unfold tabF at h
  split at h
  · omega
  · split at h
    · rename_i hv
      intro x hx
      have := List.all_eq_true.1 hv x hx
      unfold goodV at this
      simp only [Bool.and_eq_true, decide_eq_true_eq] at this
      unfold varOk
      rw [this.1.2, decide_eq_true ⟨this.2.1, this.2.2.1⟩]; rfl
    · omega
theorem fit_first : ∀ v : LV, (∀ x ∈ v, varOk x = true) → fitV v (v.map firstF) = true
  | [], _ => rfl
  | x :: v, h => by
    have hx := h x List.mem_cons_self
    unfold varOk at hx
    rw [Bool.and_eq_true, decide_eq_true_eq] at hx
    obtain ⟨h1, h2⟩ := hx
    obtain ⟨m0, m1, m2⟩ := mx16 x.f2
    rw [List.map_cons, fitV, fit_first v (fun y hy => h y (List.mem_cons_of_mem _ hy)), Bool.and_true, Bool.and_eq_true, decide_eq_true_eq]
    refine ⟨?_, ?_⟩
    · unfold firstF; rw [List.length_replicate, m2]; split <;> (try split) <;> omega
    · rw [List.all_eq_true]
      intro y hy
      rw [List.eq_of_mem_replicate hy]
      exact h1
theorem StateFits (c : LC) (v : LV) (b : LB) (u : LU) (V : LL) (B : LI) (n f : Int) : ladderbacklaw23_StateFits.f 20000 c v b u V B n f = some true := by
  obtain ⟨s3, e3, h3⟩ := few_is c v b u
  obtain ⟨s1, e1, h1⟩ := short_is V B n f
  have jt : ladderbacklaw23_StateFits.j0 20000 true c v b u V B n f = some true := by
    rw [ladderbacklaw23_StateFits.j0, if_pos rfl, awake_is _ (by omega), Option.bind_some]
  unfold ladderbacklaw23_StateFits.f
  rw [e3 _ (by omega), Option.bind_some]
  cases s3 with
  | false => rw [if_neg (by decide)]; exact jt
  | true =>
    rw [if_pos rfl, e1 _ (by omega), Option.bind_some]
    cases s1 with
    | false => exact jt
    | true =>
      obtain ⟨f1, f3⟩ := h3 rfl
      obtain ⟨v1, v2, v3⟩ := h1 rfl
      have hfl : ∀ l ∈ v.map firstF, l.length ≤ 16 := by
        intro l hl
        obtain ⟨x, _, rfl⟩ := List.mem_map.1 hl
        obtain ⟨m0, m1, m2⟩ := mx16 x.f2
        unfold firstF
        rw [List.length_replicate]
        omega
      rw [ladderbacklaw23_StateFits.j0, if_neg (by decide), snew_is v b (by omega) (by omega) _ (by omega), Option.bind_some, rnew_is v b (by omega) (by omega) _ (by omega), Option.bind_some]
      simp only
      rw [same_is _ _ _ _ 0 0 0 0 (by rw [List.length_map]; omega) (fun l hl => by have := hfl l hl; omega) (by rw [List.length_replicate]; omega) _ (by omega), Option.bind_some, eqB_self, if_pos rfl, sfits_is v b V B n f (by omega) v3 _ (by omega), Option.bind_some, rfits_is v b V B n f (by omega) v3 _ (by omega), Option.bind_some, bne_self_eq_false, ladderbacklaw23_StateFits.j1, if_neg (by decide)]
      rw [ladderbackref17_Tables.f, Option.bind_some]
      by_cases h0 : tabF v b = 0
      · rw [if_pos h0, sfits_is v b _ _ 0 0 (by omega) (fun l hl => by have := hfl l hl; omega) _ (by omega), Option.bind_some, show fitsF v b (v.map firstF) (List.replicate b.length z69) 0 0 = true by unfold fitsF; rw [if_pos ⟨by rw [List.length_map], by rw [List.length_replicate], by decide, by decide, by decide, by decide⟩]; exact fit_first v (tab_ok h0), if_pos rfl, awake_is _ (by omega), Option.bind_some]
      · rw [if_neg h0, awake_is _ (by omega), Option.bind_some]
end Go.Proofs.Ytamajfcjcfkkjaa.RPure
end

section
/- The walk of StateFits over what is read as data. -/
namespace Go.Proofs.Ytamajfcjcfkkjaa
open Go Go.RowKit Go.Proofs.Ytamajfcjcfkkjaa.PSt Go.Proofs.YtamajfcjcfkkjaaW.PrintWords
theorem StateFits_walk (cp : Array Value) (p : List S104 × List S60 × List S62 × List S66) (ca : Array Value) (a : List (List Int) × List S69 × Int × Int) (w : World) (hp : StRow.KProg.K w p cp.toList) (_ : True) (ha : StRow.KState.K w a ca.toList) (_ : True) : Calls Try.prog 6 #[.agg cp, .agg ca] w fun e w' => e = .returned (.bool true) ∧ Below w.heap.size w w' := by
  obtain ⟨A0, c0, A1, c1, rfl, ⟨g0, l0⟩, ⟨g1, l1⟩⟩ := StRow.state_of ha
  obtain ⟨A4, c4, A5, c5, A6, c6, A7, c7, rfl, ⟨g4, l4⟩, ⟨g5, l5⟩, ⟨g6, l6⟩, ⟨g7, l7⟩⟩ := StRow.prog_of hp
  exact ladderbacklaw23_StateFits.calls 20000 A4 c4 p.1 A5 c5 p.2.1 A6 c6 p.2.2.1 A7 c7 p.2.2.2 A0 c0 a.1 A1 c1 a.2.1 a.2.2.1 a.2.2.2 true w g4 l4 g5 l5 g6 l6 g7 l7 g0 l0 g1 l1 (RPure.StateFits _ _ _ _ _ _ _ _)
end Go.Proofs.Ytamajfcjcfkkjaa
end

section
/- The law StateFits holds for every input: the walk over its code shows that the call returns true and that what was read stays as it was; the row follows. -/
namespace Go.Proofs.Ytamajfcjcfkkjaa.stateFitsRw
open Go.ChangeShapes Go.WideShapes Go.ChangeAt Go.RowKit
open Go.ChangeMaps (open_string shut_string)
open Go.Proofs.Ytamajfcjcfkkjaa.Bridge
set_option linter.unusedVariables false
set_option linter.unusedSimpArgs false
theorem own : ownKnob Try.prog.godebug = none := by kernel_rfl
theorem laidOut : laidOutB Try.prog = true := by kernel_rfl
set_option maxRecDepth 100000 in
theorem lifted (os : Os) (started : os.Started) (H : Type) (enc : TypeId × Value → H) :
    ReturnsInHanded {} Try.checked os 6 .any (Rows.stateFitsSpec.pre6 enc Try.prog Try.f6 Rows.stateFitsRow.domain false) (Rows.stateFitsSpec.post enc Try.prog Try.f6 false true false false) := by
  refine returnsInHanded_of_change_sized (C := Try.checked) own started (by kernel_rfl) Try.func6
    (ChangeSpec.witness6 (enc := enc) (C := Try.checked) false ⟨#[], #[.agg #[.slice none 0 0, .slice none 0 0, .slice none 0 0, .slice none 0 0], .agg #[.slice none 0 0, .slice none 0 0, .int .i64 0, .int .i64 0]], []⟩ 8 (by kernel_rfl) (by kernel_rfl) (by kernel_rfl) (by kernel_rfl)) ?_
  intro W base args ds gs before hval0 hW hcnd hsz0 _
  have hval : ∀ (j : Nat) t v, Try.f6.params[j]? = some t → args[j]? = some v → Value.okWide Try.prog W .any base t v := hval0
  have hsz : (DataW.weightsEach Try.prog (Try.f6.params.toList ++ Rows.stateFitsSpec.plain.varTypes Try.prog) (ds ++ gs)).all (· ≤ reachBytes) = true := hsz0
  clear hval0 hsz0 hcnd
  have hW' := hW
  obtain ⟨p, q, hA0, hV, rfl, hfz, hnd⟩ := hW
  have hA : DataW.TrodAll enc Try.prog W 0 (fun _ => true) true Try.f6.params.toList args.toList ds p := hA0
  rw [Try.params6] at hA hval hsz
  obtain ⟨v0, vs0, d0, ds0, p0, q0, hargs, rfl, rfl, h0, r0⟩ := trodAll_cons hA
  obtain ⟨v1, vs1, d1, ds1, p1, q1, rfl, rfl, rfl, h1, r1⟩ := trodAll_cons r0
  obtain ⟨rfl, rfl, rfl⟩ := trodAll_nil r1
  obtain rfl : args = #[v0, v1] := by cases args; simp_all
  obtain ⟨rfl, rfl⟩ := trodVars_none hV
  clear hA0
  have k0 := h0
  have lt0 : ∀ x ∈ p0, x.block < W.heap.size := by obtain ⟨m, hm⟩ := k0; exact DataW.trod_lt m _ _ _ hm
  obtain ⟨cs0, rfl⟩ : ∃ cs, v0 = .agg cs := by
    have z := (hval 0 27 v0 rfl rfl)
    unfold Value.okWide at z
    rw [Try.underlying27] at z
    obtain ⟨cs, e, _⟩ := z
    exact ⟨cs, e⟩
  obtain ⟨x0, hk0, wf0⟩ := Rdga.trod StRow.rd_prog h0
  have k1 := h1
  have lt1 : ∀ x ∈ p1, x.block < W.heap.size := by obtain ⟨m, hm⟩ := k1; exact DataW.trod_lt m _ _ _ hm
  obtain ⟨cs1, rfl⟩ : ∃ cs, v1 = .agg cs := by
    have z := (hval 1 31 v1 rfl rfl)
    unfold Value.okWide at z
    rw [Try.underlying31] at z
    obtain ⟨cs, e, _⟩ := z
    exact ⟨cs, e⟩
  obtain ⟨x1, hk1, wf1⟩ := Rdga.trod StRow.rd_state h1
  refine (StateFits_walk cs0 x0 cs1 x1 W hk0 wf0 hk1 wf1).mono fun e W' ⟨he, bel⟩ => ?_
  subst he
  exact ⟨_, rfl, _, _, _, [], _, [], hW', trodAll_mk1 (shut_bool Try.underlying4 _), (trodAll_cons_mk (Below.trod laidOut (by kernel_rfl) (of_decide_eq_true (by kernel_rfl)) k0 bel lt0) (trodAll_cons_mk (Below.trod laidOut (by kernel_rfl) (of_decide_eq_true (by kernel_rfl)) k1 bel lt1) trodAll_mk0)), rfl, bel.frame _, fun h => by cases h⟩
theorem over : Rows.stateFitsRow.holds Try.pinned (OpenSpec.ofChange Rows.stateFitsSpec) :=
  OpenClaim.holds_of_wide 6 Try.f6 rfl rfl rfl rfl rfl rfl rfl ⟨rfl, rfl, rfl, rfl, rfl⟩ rfl rfl rfl rfl rfl (by kernel_rfl) Try.func6 (by kernel_rfl)
    (of_decide_eq_true (by kernel_rfl)) (by unfold Func.isWrapper; first | (rw [if_pos (by decide +kernel)]; kernel_rfl) | (rw [if_neg (by decide +kernel)]; exact ⟨rfl, rfl⟩))
    (fun os started H enc _ => lifted os started H enc)
theorem proved : Rows.StateFitsSaid := over
end Go.Proofs.Ytamajfcjcfkkjaa.stateFitsRw
namespace Go.Proofs.Ytamajfcjcfkkjaa
theorem stateFits_holds : Rows.StateFitsSaid := stateFitsRw.proved
#print axioms stateFits_holds
end Go.Proofs.Ytamajfcjcfkkjaa
end

/- The law StateSame holds for every input: the walk over its code shows that the call returns true and that what was read stays as it was; the row follows. -/
import Derived.Test.YtamajfcjcfkkjaaRows
import Derived.WalkKit
import Derived.ProofKit
import Derived.OpenShut
import Derived.ShutString
import Derived.ChangeOld
import Derived.Below
import Derived.SizedLaws
import Derived.Test.YtamajfcjcfkkjaaZStateSameaa
import Derived.Test.YtamajfcjcfkkjaaZStateSameab
import Derived.Test.YtamajfcjcfkkjaaZStateSamead
import Derived.Test.YtamajfcjcfkkjaaZStateSameae
import Derived.Test.YtamajfcjcfkkjaaZStateSameaf
import Derived.Test.YtamajfcjcfkkjaaZStateSameah
section
/- Few rows; the values of an area; two states the same: the plain law of StateSame. -/
namespace Go.Proofs.Ytamajfcjcfkkjaa.RPure
open Go.RowKit Go.Proofs.Ytamajfcjcfkkjaa.PSt Go.Proofs.Ytamajfcjcfkkjaa.Given Go.Proofs.YtamajfcjcfkkjaaW.PrintWords Go.Proofs.YtamajfcjcfkkjaaW.PrintLast Go.Proofs.YtamajfcjcfkkjaaW.PrintMore
set_option linter.unusedVariables false
set_option linter.unusedSimpArgs false
theorem w64 (x : Int) (h0 : -9223372036854775808 ≤ x) (h1 : x < 9223372036854775808) : wrap64 x = x := by unfold wrap64; omega
abbrev LC := List S104
abbrev LV := List S60
abbrev LB := List S62
abbrev LU := List S66
/-- Units of few parts. -/
def Ok (U : LU) : Prop := ∀ X ∈ U, X.f1.length ≤ 20 ∧ X.f3.length ≤ 1100 ∧ X.f4.length ≤ 300
theorem few15 (X : S66) : ∃ b, ladderbacklaw15_Few.f X.f0 X.f1 X.f2 X.f3 X.f4 = some b ∧ (b = true → X.f1.length ≤ 20 ∧ X.f3.length ≤ 1100 ∧ X.f4.length ≤ 300) := by
  unfold ladderbacklaw15_Few.f
  by_cases h1 : (X.f0.size : Int) ≤ 300
  · rw [if_pos h1]
    by_cases h2 : (X.f1.length : Int) ≤ 20
    · rw [if_pos h2]
      by_cases h3 : (X.f3.length : Int) ≤ 1100
      · rw [if_pos h3]
        exact ⟨_, rfl, fun h => by simp at h; omega⟩
      · rw [if_neg h3]; exact ⟨_, rfl, fun h => by cases h⟩
    · rw [if_neg h2]; exact ⟨_, rfl, fun h => by cases h⟩
  · rw [if_neg h1]; exact ⟨_, rfl, fun h => by cases h⟩
theorem rd_unit_at (U : LU) (j : Nat) (h : j < U.length) : rd_T66 U (j : Int) = U[j] := by
  unfold rd_T66
  rw [Int.toNat_natCast, List.getD_eq_getElem?_getD, List.getElem?_eq_getElem h]; rfl
theorem few_l2 (C : LC) (V : LV) (B : LB) (U : LU) (hl : U.length ≤ 10) : ∀ m j : Nat, j + m = U.length → ∃ b, (∀ k, m + 1 ≤ k → ladderbacklaw16_Few.l2 k (j : Int) C V B U = some b) ∧ (b = true → ∀ i (hi : i < U.length), j ≤ i → U[i].f1.length ≤ 20 ∧ U[i].f3.length ≤ 1100 ∧ U[i].f4.length ≤ 300) := by
  intro m
  induction m with
  | zero =>
    intro j hj
    refine ⟨true, fun k hk => ?_, fun _ i hi h => by omega⟩
    obtain ⟨k, rfl⟩ : ∃ m, k = m + 1 := ⟨k - 1, by omega⟩
    rw [ladderbacklaw16_Few.l2, if_neg (by omega)]
  | succ m ih =>
    intro j hj
    have hlt : j < U.length := by omega
    obtain ⟨b1, e1, f1⟩ := few15 U[j]
    obtain ⟨b2, e2, f2⟩ := ih (j + 1) (by omega)
    refine ⟨b1 && b2, fun k hk => ?_, fun h i hi hji => ?_⟩
    · obtain ⟨k, rfl⟩ : ∃ m, k = m + 1 := ⟨k - 1, by omega⟩
      rw [ladderbacklaw16_Few.l2, if_pos (by omega), if_pos (by omega), rd_unit_at U j hlt, e1, Option.bind_some]
      cases b1 with
      | true => rw [if_pos rfl, w64 _ (by omega) (by omega)]; exact e2 k (by omega)
      | false => rfl
    · rw [Bool.and_eq_true] at h
      rcases Nat.lt_or_ge j i with h1 | h1
      · exact f2 h.2 i hi h1
      · obtain rfl : i = j := by omega
        exact f1 h.1
theorem few_l1 (C : LC) (V : LV) (B : LB) (U : LU) (hl : U.length ≤ 10) (hB : B.length ≤ 40) : ∀ m j : Nat, j + m = B.length → ∃ b, (∀ k, m + 20 ≤ k → ladderbacklaw16_Few.l1 k (j : Int) C V B U = some b) ∧ (b = true → Ok U) := by
  intro m
  induction m with
  | zero =>
    intro j hj
    obtain ⟨b, e, f⟩ := few_l2 C V B U hl U.length 0 (by omega)
    refine ⟨b, fun k hk => ?_, fun h X hX => ?_⟩
    · obtain ⟨k, rfl⟩ : ∃ m, k = m + 1 := ⟨k - 1, by omega⟩
      rw [ladderbacklaw16_Few.l1, if_neg (by omega)]
      exact e k (by omega)
    · obtain ⟨i, hi, rfl⟩ := List.getElem_of_mem hX
      exact f h i hi (Nat.zero_le _)
  | succ m ih =>
    intro j hj
    obtain ⟨b2, e2, f2⟩ := ih (j + 1) (by omega)
    by_cases hs : (((rd_T62 B (j : Int)).f0).size : Int) > 300
    · refine ⟨false, fun k hk => ?_, fun h => by cases h⟩
      obtain ⟨k, rfl⟩ : ∃ m, k = m + 1 := ⟨k - 1, by omega⟩
      rw [ladderbacklaw16_Few.l1, if_pos (by omega), if_pos (by omega), if_pos hs]
    · refine ⟨b2, fun k hk => ?_, f2⟩
      obtain ⟨k, rfl⟩ : ∃ m, k = m + 1 := ⟨k - 1, by omega⟩
      rw [ladderbacklaw16_Few.l1, if_pos (by omega), if_pos (by omega), if_neg hs, w64 _ (by omega) (by omega)]
      exact e2 k (by omega)
theorem few_l0 (C : LC) (V : LV) (B : LB) (U : LU) (hl : U.length ≤ 10) (hB : B.length ≤ 40) (hV : V.length ≤ 70) : ∀ m j : Nat, j + m = V.length → ∃ b, (∀ k, m + 70 ≤ k → ladderbacklaw16_Few.l0 k (j : Int) C V B U = some b) ∧ (b = true → Ok U) := by
  intro m
  induction m with
  | zero =>
    intro j hj
    obtain ⟨b, e, f⟩ := few_l1 C V B U hl hB B.length 0 (by omega)
    refine ⟨b, fun k hk => ?_, f⟩
    obtain ⟨k, rfl⟩ : ∃ m, k = m + 1 := ⟨k - 1, by omega⟩
    rw [ladderbacklaw16_Few.l0, if_neg (by omega)]
    exact e k (by omega)
  | succ m ih =>
    intro j hj
    obtain ⟨b2, e2, f2⟩ := ih (j + 1) (by omega)
    by_cases hs : (((rd_T60 V (j : Int)).f0).size : Int) > 300
    · refine ⟨false, fun k hk => ?_, fun h => by cases h⟩
      obtain ⟨k, rfl⟩ : ∃ m, k = m + 1 := ⟨k - 1, by omega⟩
      rw [ladderbacklaw16_Few.l0, if_pos (by omega), if_pos (by omega), if_pos hs]
    · refine ⟨b2, fun k hk => ?_, f2⟩
      obtain ⟨k, rfl⟩ : ∃ m, k = m + 1 := ⟨k - 1, by omega⟩
      rw [ladderbacklaw16_Few.l0, if_pos (by omega), if_pos (by omega), if_neg hs, w64 _ (by omega) (by omega)]
      exact e2 k (by omega)
theorem few_is (C : LC) (V : LV) (B : LB) (U : LU) : ∃ b, (∀ k, 200 ≤ k → ladderbacklaw16_Few.f k C V B U = some b) ∧ (b = true → V.length ≤ 70 ∧ B.length ≤ 40) := by
  have hj : ∀ k, 1 ≤ k → ladderbacklaw16_Few.j0 k true C V B U = some false := fun k hk => by
    obtain ⟨k, rfl⟩ : ∃ m, k = m + 1 := ⟨k - 1, by omega⟩
    rw [ladderbacklaw16_Few.j0, if_pos rfl]
  by_cases h1 : (C.length : Int) > 60
  · exact ⟨false, fun k hk => by unfold ladderbacklaw16_Few.f; rw [if_pos h1]; exact hj k (by omega), fun h => by cases h⟩
  by_cases h2 : (V.length : Int) > 70
  · exact ⟨false, fun k hk => by unfold ladderbacklaw16_Few.f; rw [if_neg h1, if_pos h2]; exact hj k (by omega), fun h => by cases h⟩
  by_cases h3 : (B.length : Int) > 40
  · exact ⟨false, fun k hk => by unfold ladderbacklaw16_Few.f; rw [if_neg h1, if_neg h2, if_pos h3]; exact hj k (by omega), fun h => by cases h⟩
  by_cases h4 : (U.length : Int) > 10
  · exact ⟨false, fun k hk => by unfold ladderbacklaw16_Few.f; rw [if_neg h1, if_neg h2, if_neg h3, decide_eq_true h4]; exact hj k (by omega), fun h => by cases h⟩
  obtain ⟨b, e, f⟩ := few_l0 C V B U (by omega) (by omega) (by omega) V.length 0 (by omega)
  refine ⟨b, fun k hk => ?_, fun h => ⟨by omega, by omega⟩⟩
  obtain ⟨k, rfl⟩ : ∃ m, k = m + 1 := ⟨k - 1, by omega⟩
  unfold ladderbacklaw16_Few.f
  rw [if_neg h1, if_neg h2, if_neg h3, decide_eq_false h4, ladderbacklaw16_Few.j0, if_neg (by decide)]
  exact e k (by omega)
theorem rdV (v : LV) (i : Nat) (h : i < v.length) : rd_T60 v (i : Int) = v[i] := by unfold rd_T60; rw [Int.toNat_natCast, List.getD_eq_getElem?_getD, List.getElem?_eq_getElem h]; rfl
/-- The values of an area. -/
def areaF : LV → LL → Int → List Int
  | x :: v, l :: V, a => (if x.f3 = a then l else []) ++ areaF v V a
  | _, _, _ => []
theorem area_nil (v : LV) (a : Int) : areaF v [] a = [] := by cases v <;> rfl
theorem area_at (v : LV) (V : LL) (a : Int) (i : Nat) (h : i < v.length) (h2 : i < V.length) : areaF (v.drop i) (V.drop i) a = (if v[i].f3 = a then V[i] else []) ++ areaF (v.drop (i + 1)) (V.drop (i + 1)) a := by
  rw [List.drop_eq_getElem_cons h, List.drop_eq_getElem_cons h2, areaF]
theorem area_len (V : LL) (a : Int) (hl : ∀ l ∈ V, l.length ≤ 100) : ∀ v : LV, (areaF v V a).length ≤ 100 * V.length := by
  induction V with
  | nil => intro v; rw [area_nil]; simp
  | cons l V ih =>
    intro v
    cases v with
    | nil => simp [areaF]
    | cons x v =>
      have := ih (fun l hl' => hl l (List.mem_cons_of_mem _ hl')) v
      have h2 := hl l List.mem_cons_self
      rw [areaF, List.length_append, List.length_cons]
      split <;> simp <;> omega
theorem sarea_l0 (v : LV) (V : LL) (B : LI) (n f a : Int) (hv : v.length ≤ 1000) (hl : ∀ l ∈ V, l.length ≤ 100) : ∀ m i k : Nat, ∀ acc : List Int, i + m = v.length → m < k → acc.length ≤ 100 * i → state_Area.l0 k a acc v (v.length : Int) (i : Int) V B n f = some (acc ++ areaF (v.drop i) (V.drop i) a) := by
  intro m
  induction m with
  | zero =>
    intro i k acc h1 h2 h3
    obtain ⟨k, rfl⟩ : ∃ m, k = m + 1 := ⟨k - 1, by omega⟩
    rw [state_Area.l0, if_neg (by omega), List.drop_of_length_le (by omega), areaF, List.append_nil]
    intro _ _ _ _ h; cases h
  | succ m ih =>
    intro i k acc h1 h2 h3
    obtain ⟨k, rfl⟩ : ∃ m, k = m + 1 := ⟨k - 1, by omega⟩
    have hi : i < v.length := by omega
    rw [state_Area.l0, if_pos (by omega), if_pos (by omega), if_pos (by omega), rdV v i hi, wn i (by omega)]
    by_cases h5 : i < V.length
    · have hli := hl _ (List.getElem_mem h5)
      rw [area_at v V a i hi h5]
      by_cases h4 : v[i].f3 = a
      · rw [if_pos h4, if_pos (by omega), rdL V i h5, if_pos (by omega), if_pos h4, ih (i + 1) k _ (by omega) (by omega) (by rw [List.length_append]; omega), List.append_assoc]
      · rw [if_neg h4, if_neg h4, ih (i + 1) k _ (by omega) (by omega) (by omega), List.nil_append]
    · have e1 : V.drop i = [] := List.drop_of_length_le (by omega)
      have e2 : V.drop (i + 1) = [] := List.drop_of_length_le (by omega)
      have := ih (i + 1) k acc (by omega) (by omega) (by omega)
      rw [e2, area_nil] at this
      rw [e1, area_nil, this]
      split
      · rw [if_neg (by omega)]
      · rfl
theorem rarea_l1 (v : LV) (V : LL) (B : LI) (n f a : Int) (i K : Nat) (R : Option (List Int)) (hi : i < v.length) (hv : v.length ≤ 1000) (h5 : i < V.length) (hl : V[i].length ≤ 100) (acc : List Int) (hacc : acc.length ≤ 100000)
    (hK : ∀ k, K ≤ k → ladderbackref23_Area.l0 k v a (acc ++ (if v[i].f3 = a then V[i] else [])) (((i + 1 : Nat)) : Int) V B n f = R) :
    ∀ m j k : Nat, j + m = V[i].length → K + m + 1 ≤ k → (v[i].f3 = a ∨ j = 0) → ladderbackref23_Area.l1 k v a (acc ++ (if v[i].f3 = a then V[i].take j else [])) (i : Int) (j : Int) V B n f = R := by
  intro m
  induction m with
  | zero =>
    intro j k h1 h2 h3
    obtain ⟨k, rfl⟩ : ∃ m, k = m + 1 := ⟨k - 1, by omega⟩
    rw [ladderbackref23_Area.l1, if_pos (by omega), if_pos (by omega), rdL V i h5, if_neg (by omega), wn i (by omega), List.take_of_length_le (by omega)]
    exact hK k (by omega)
  | succ m ih =>
    intro j k h1 h2 h3
    obtain ⟨k, rfl⟩ : ∃ m, k = m + 1 := ⟨k - 1, by omega⟩
    have hj : j < V[i].length := by omega
    rw [ladderbackref23_Area.l1, if_pos (by omega), if_pos (by omega), rdL V i h5, if_pos (by omega), if_pos (by omega), rdV v i hi]
    by_cases h4 : v[i].f3 = a
    · have := ih (j + 1) k (by omega) (by omega) (.inl h4)
      rw [if_pos h4] at this
      rw [if_pos h4, if_pos h4, if_pos (by omega), if_pos (by rw [List.length_append, List.length_take]; omega), wn j (by omega), rdn _ j hj, List.append_assoc, ← List.take_succ_eq_append_getElem hj]
      exact this
    · have hj0 : j = 0 := by rcases h3 with h | h; exact absurd h h4; exact h
      have := hK k (by omega)
      rw [if_neg h4] at this
      rw [if_neg h4, if_neg h4, wn i (by omega)]
      exact this
theorem rarea_l0 (v : LV) (V : LL) (B : LI) (n f a : Int) (hv : v.length ≤ 1000) (hl : ∀ l ∈ V, l.length ≤ 100) : ∀ m i k : Nat, ∀ acc : List Int, i + m = v.length → m * 104 + 4 ≤ k → acc.length ≤ 100 * i → ladderbackref23_Area.l0 k v a acc (i : Int) V B n f = some (acc ++ areaF (v.drop i) (V.drop i) a) := by
  intro m
  induction m with
  | zero =>
    intro i k acc h1 h2 h3
    obtain ⟨k, rfl⟩ : ∃ m, k = m + 2 := ⟨k - 2, by omega⟩
    rw [ladderbackref23_Area.l0, if_neg (by omega), ladderbackref23_Area.j1, if_neg (by decide), List.drop_of_length_le (by omega), areaF, List.append_nil]
    intro _ _ _ _ h; cases h
  | succ m ih =>
    intro i k acc h1 h2 h3
    obtain ⟨k, rfl⟩ : ∃ m, k = m + 2 := ⟨k - 2, by omega⟩
    have hi : i < v.length := by omega
    rw [ladderbackref23_Area.l0, if_pos (by omega)]
    by_cases h5 : i < V.length
    · have hli := hl _ (List.getElem_mem h5)
      rw [decide_eq_true (by omega), ladderbackref23_Area.j1, if_pos rfl, area_at v V a i hi h5]
      have := rarea_l1 v V B n f a i (m * 104 + 4) (some (acc ++ ((if v[i].f3 = a then V[i] else []) ++ areaF (v.drop (i + 1)) (V.drop (i + 1)) a))) hi hv h5 hli acc (by omega) (fun k hk => by
        rw [ih (i + 1) k _ (by omega) hk (by rw [List.length_append]; split <;> (try simp only [List.length_nil]) <;> omega), List.append_assoc]) V[i].length 0 k (by omega) (by omega) (.inr rfl)
      rw [List.take_zero, ite_self, List.append_nil] at this
      exact this
    · rw [decide_eq_false (by omega), ladderbackref23_Area.j1, if_neg (by decide), List.drop_of_length_le (show V.length ≤ i by omega), area_nil, List.append_nil]
theorem sarea_is (v : LV) (V : LL) (B : LI) (n f a : Int) (hv : v.length ≤ 1000) (hl : ∀ l ∈ V, l.length ≤ 100) (k : Nat) (hk : v.length < k) : state_Area.f k v V B n f a = some (areaF v V a) := by
  unfold state_Area.f
  have := sarea_l0 v V B n f a hv hl v.length 0 k [] (by omega) hk (by simp)
  simpa using this
theorem rarea_is (v : LV) (V : LL) (B : LI) (n f a : Int) (hv : v.length ≤ 1000) (hl : ∀ l ∈ V, l.length ≤ 100) (k : Nat) (hk : v.length * 104 + 4 ≤ k) : ladderbackref23_Area.f k v V B n f a = some (areaF v V a) := by
  unfold ladderbackref23_Area.f
  have := rarea_l0 v V B n f a hv hl v.length 0 k [] (by omega) hk (by simp)
  simpa using this
theorem awake_more : ∀ d, ladderbacklaw23_awake.f (4 + d) = some true := by
  intro d
  induction d with
  | zero => decide +kernel
  | succ d ih => exact ladderbacklaw23_awake.mono (4 + d) _ ih
theorem awake_is (k : Nat) (hk : 4 ≤ k) : ladderbacklaw23_awake.f k = some true := by
  rw [show k = 4 + (k - 4) by omega]; exact awake_more _
theorem StateSame (V : LL) (B : LI) (n f : Int) (W : LL) (C : LI) (n2 f2 : Int) (c : LC) (v : LV) (b : LB) (u : LU) : ladderbacklaw23_StateSame.f 20000 V B n f W C n2 f2 c v b u = some true := by
  obtain ⟨s1, e1, h1⟩ := short_is V B n f
  obtain ⟨s2, e2, h2⟩ := short_is W C n2 f2
  obtain ⟨s3, e3, h3⟩ := few_is c v b u
  have jt : ladderbacklaw23_StateSame.j0 20000 true V B n f W C n2 f2 c v b u = some true := by
    rw [ladderbacklaw23_StateSame.j0, if_pos rfl, awake_is _ (by omega), Option.bind_some]
  unfold ladderbacklaw23_StateSame.f
  rw [e1 _ (by omega), Option.bind_some]
  cases s1 with
  | false => rw [if_neg (by decide)]; exact jt
  | true =>
    rw [if_pos rfl, e2 _ (by omega), Option.bind_some]
    cases s2 with
    | false => rw [if_neg (by decide)]; exact jt
    | true =>
      rw [if_pos rfl, e3 _ (by omega), Option.bind_some]
      cases s3 with
      | false => exact jt
      | true =>
        obtain ⟨v1, v2, v3⟩ := h1 rfl
        obtain ⟨w1, w2, w3⟩ := h2 rfl
        obtain ⟨f1, f3⟩ := h3 rfl
        rw [ladderbacklaw23_StateSame.j0, if_neg (by decide)]
        have main : ∀ m : Nat, ∀ a : Int, a = 4 - m → m ≤ 5 → ∀ k : Nat, 11000 + m ≤ k → ladderbacklaw23_StateSame.l0 k a V B n f W C n2 f2 c v b u = some true := by
          intro m
          induction m with
          | zero =>
            intro a ha _ k hk
            obtain ⟨k, rfl⟩ : ∃ m, k = m + 1 := ⟨k - 1, by omega⟩
            rw [ladderbacklaw23_StateSame.l0, if_neg (by omega), state_Same.f, Option.bind_some, same_is V W B C n f n2 f2 v1 (fun l hl => by have := v3 l hl; omega) v2 k (by omega), Option.bind_some, if_pos (by simp), sclone_is V B n f ⟨v1, v2, v3⟩ k (by omega), Option.bind_some]
            simp only
            rw [same_is V V B B n f n f v1 (fun l hl => by have := v3 l hl; omega) v2 k (by omega), Option.bind_some, eqB_self, if_pos rfl, state_Same.f, Option.bind_some, eqB_self, if_pos rfl, awake_is _ (by omega), Option.bind_some]
          | succ m ih =>
            intro a ha hm k hk
            obtain ⟨k, rfl⟩ : ∃ m, k = m + 1 := ⟨k - 1, by omega⟩
            rw [ladderbacklaw23_StateSame.l0, if_pos (by omega), sarea_is v V B n f a (by omega) v3 k (by omega), Option.bind_some, rarea_is v V B n f a (by omega) v3 k (by omega), Option.bind_some, ints_is _ _ (by have := area_len V a v3 v; omega) k (by have := area_len V a v3 v; omega), Option.bind_some, eqB_self, if_pos rfl, w64 _ (by omega) (by omega)]
            exact ih (a + 1) (by omega) (by omega) k (by omega)
        exact main 5 (-1) (by decide) (by decide) 19999 (by decide)
end Go.Proofs.Ytamajfcjcfkkjaa.RPure
end

section
/- The walk of StateSame over what is read as data. -/
namespace Go.Proofs.Ytamajfcjcfkkjaa
open Go Go.RowKit Go.Proofs.Ytamajfcjcfkkjaa.PSt Go.Proofs.YtamajfcjcfkkjaaW.PrintWords
theorem StateSame_walk (ca : Array Value) (a : List (List Int) × List S69 × Int × Int) (cb : Array Value) (b : List (List Int) × List S69 × Int × Int) (cp : Array Value) (p : List S104 × List S60 × List S62 × List S66) (w : World) (ha : StRow.KState.K w a ca.toList) (_ : True) (hb : StRow.KState.K w b cb.toList) (_ : True) (hp : StRow.KProg.K w p cp.toList) (_ : True) : Calls Try.prog 7 #[.agg ca, .agg cb, .agg cp] w fun e w' => e = .returned (.bool true) ∧ Below w.heap.size w w' := by
  obtain ⟨A0, c0, A1, c1, rfl, ⟨g0, l0⟩, ⟨g1, l1⟩⟩ := StRow.state_of ha
  obtain ⟨A2, c2, A3, c3, rfl, ⟨g2, l2⟩, ⟨g3, l3⟩⟩ := StRow.state_of hb
  obtain ⟨A4, c4, A5, c5, A6, c6, A7, c7, rfl, ⟨g4, l4⟩, ⟨g5, l5⟩, ⟨g6, l6⟩, ⟨g7, l7⟩⟩ := StRow.prog_of hp
  exact ladderbacklaw23_StateSame.calls 20000 A0 c0 a.1 A1 c1 a.2.1 a.2.2.1 a.2.2.2 A2 c2 b.1 A3 c3 b.2.1 b.2.2.1 b.2.2.2 A4 c4 p.1 A5 c5 p.2.1 A6 c6 p.2.2.1 A7 c7 p.2.2.2 true w g0 l0 g1 l1 g2 l2 g3 l3 g4 l4 g5 l5 g6 l6 g7 l7 (RPure.StateSame _ _ _ _ _ _ _ _ _ _ _ _)
end Go.Proofs.Ytamajfcjcfkkjaa
end

section
/- The law StateSame holds for every input: the walk over its code shows that the call returns true and that what was read stays as it was; the row follows. -/
namespace Go.Proofs.Ytamajfcjcfkkjaa.stateSameRw
open Go.ChangeShapes Go.WideShapes Go.ChangeAt Go.RowKit
open Go.ChangeMaps (open_string shut_string)
open Go.Proofs.Ytamajfcjcfkkjaa.Bridge
set_option linter.unusedVariables false
set_option linter.unusedSimpArgs false
theorem own : ownKnob Try.prog.godebug = none := by kernel_rfl
theorem laidOut : laidOutB Try.prog = true := by kernel_rfl
set_option maxRecDepth 100000 in
theorem lifted (os : Os) (started : os.Started) (H : Type) (enc : TypeId × Value → H) :
    ReturnsInHanded {} Try.checked os 7 .any (Rows.stateSameSpec.pre6 enc Try.prog Try.f7 Rows.stateSameRow.domain false) (Rows.stateSameSpec.post enc Try.prog Try.f7 false true false false) := by
  refine returnsInHanded_of_change_sized (C := Try.checked) own started (by kernel_rfl) Try.func7
    (ChangeSpec.witness6 (enc := enc) (C := Try.checked) false ⟨#[], #[.agg #[.slice none 0 0, .slice none 0 0, .int .i64 0, .int .i64 0], .agg #[.slice none 0 0, .slice none 0 0, .int .i64 0, .int .i64 0], .agg #[.slice none 0 0, .slice none 0 0, .slice none 0 0, .slice none 0 0]], []⟩ 8 (by kernel_rfl) (by kernel_rfl) (by kernel_rfl) (by kernel_rfl)) ?_
  intro W base args ds gs before hval0 hW hcnd hsz0 _
  have hval : ∀ (j : Nat) t v, Try.f7.params[j]? = some t → args[j]? = some v → Value.okWide Try.prog W .any base t v := hval0
  have hsz : (DataW.weightsEach Try.prog (Try.f7.params.toList ++ Rows.stateSameSpec.plain.varTypes Try.prog) (ds ++ gs)).all (· ≤ reachBytes) = true := hsz0
  clear hval0 hsz0 hcnd
  have hW' := hW
  obtain ⟨p, q, hA0, hV, rfl, hfz, hnd⟩ := hW
  have hA : DataW.TrodAll enc Try.prog W 0 (fun _ => true) true Try.f7.params.toList args.toList ds p := hA0
  rw [Try.params7] at hA hval hsz
  obtain ⟨v0, vs0, d0, ds0, p0, q0, hargs, rfl, rfl, h0, r0⟩ := trodAll_cons hA
  obtain ⟨v1, vs1, d1, ds1, p1, q1, rfl, rfl, rfl, h1, r1⟩ := trodAll_cons r0
  obtain ⟨v2, vs2, d2, ds2, p2, q2, rfl, rfl, rfl, h2, r2⟩ := trodAll_cons r1
  obtain ⟨rfl, rfl, rfl⟩ := trodAll_nil r2
  obtain rfl : args = #[v0, v1, v2] := by cases args; simp_all
  obtain ⟨rfl, rfl⟩ := trodVars_none hV
  clear hA0
  have k0 := h0
  have lt0 : ∀ x ∈ p0, x.block < W.heap.size := by obtain ⟨m, hm⟩ := k0; exact DataW.trod_lt m _ _ _ hm
  obtain ⟨cs0, rfl⟩ : ∃ cs, v0 = .agg cs := by
    have z := (hval 0 31 v0 rfl rfl)
    unfold Value.okWide at z
    rw [Try.underlying31] at z
    obtain ⟨cs, e, _⟩ := z
    exact ⟨cs, e⟩
  obtain ⟨x0, hk0, wf0⟩ := Rdga.trod StRow.rd_state h0
  have k1 := h1
  have lt1 : ∀ x ∈ p1, x.block < W.heap.size := by obtain ⟨m, hm⟩ := k1; exact DataW.trod_lt m _ _ _ hm
  obtain ⟨cs1, rfl⟩ : ∃ cs, v1 = .agg cs := by
    have z := (hval 1 31 v1 rfl rfl)
    unfold Value.okWide at z
    rw [Try.underlying31] at z
    obtain ⟨cs, e, _⟩ := z
    exact ⟨cs, e⟩
  obtain ⟨x1, hk1, wf1⟩ := Rdga.trod StRow.rd_state h1
  have k2 := h2
  have lt2 : ∀ x ∈ p2, x.block < W.heap.size := by obtain ⟨m, hm⟩ := k2; exact DataW.trod_lt m _ _ _ hm
  obtain ⟨cs2, rfl⟩ : ∃ cs, v2 = .agg cs := by
    have z := (hval 2 27 v2 rfl rfl)
    unfold Value.okWide at z
    rw [Try.underlying27] at z
    obtain ⟨cs, e, _⟩ := z
    exact ⟨cs, e⟩
  obtain ⟨x2, hk2, wf2⟩ := Rdga.trod StRow.rd_prog h2
  refine (StateSame_walk cs0 x0 cs1 x1 cs2 x2 W hk0 wf0 hk1 wf1 hk2 wf2).mono fun e W' ⟨he, bel⟩ => ?_
  subst he
  exact ⟨_, rfl, _, _, _, [], _, [], hW', trodAll_mk1 (shut_bool Try.underlying4 _), (trodAll_cons_mk (Below.trod laidOut (by kernel_rfl) (of_decide_eq_true (by kernel_rfl)) k0 bel lt0) (trodAll_cons_mk (Below.trod laidOut (by kernel_rfl) (of_decide_eq_true (by kernel_rfl)) k1 bel lt1) (trodAll_cons_mk (Below.trod laidOut (by kernel_rfl) (of_decide_eq_true (by kernel_rfl)) k2 bel lt2) trodAll_mk0))), rfl, bel.frame _, fun h => by cases h⟩
theorem over : Rows.stateSameRow.holds Try.pinned (OpenSpec.ofChange Rows.stateSameSpec) :=
  OpenClaim.holds_of_wide 7 Try.f7 rfl rfl rfl rfl rfl rfl rfl ⟨rfl, rfl, rfl, rfl, rfl⟩ rfl rfl rfl rfl rfl (by kernel_rfl) Try.func7 (by kernel_rfl)
    (of_decide_eq_true (by kernel_rfl)) (by unfold Func.isWrapper; first | (rw [if_pos (by decide +kernel)]; kernel_rfl) | (rw [if_neg (by decide +kernel)]; exact ⟨rfl, rfl⟩))
    (fun os started H enc _ => lifted os started H enc)
theorem proved : Rows.StateSameSaid := over
end Go.Proofs.Ytamajfcjcfkkjaa.stateSameRw
namespace Go.Proofs.Ytamajfcjcfkkjaa
theorem stateSame_holds : Rows.StateSameSaid := stateSameRw.proved
#print axioms stateSame_holds
end Go.Proofs.Ytamajfcjcfkkjaa
end

/- The law CycleBegins holds for every input: the walk over its code shows that the call returns true and that what was read stays as it was; the row follows. -/
import Derived.DataShut
import Derived.Laws.BitsAllLaws
import Derived.Test.YtamajfcjcfkkjaaRows
import Derived.WalkKit
import Derived.ProofKit
import Derived.OpenShut
import Derived.ShutString
import Derived.ChangeOld
import Derived.Below
import Derived.SizedLaws
import Derived.Test.YtamajfcjcfkkjaaZCycleBeginsaa
import Derived.Test.YtamajfcjcfkkjaaZCycleBeginsac
import Derived.Test.YtamajfcjcfkkjaaZCycleBeginsaf
import Derived.Test.YtamajfcjcfkkjaaZCycleBeginsag
import Derived.Test.YtamajfcjcfkkjaaZCycleBeginsaj
section
/- The law CycleBegins, in plain Lean. -/
namespace Go.Proofs.Ytamajfcjcfkkjaa.RPure
open Go Go.RowKit Go.Proofs.Ytamajfcjcfkkjaa.PSt Go.Proofs.Ytamajfcjcfkkjaa.Given Go.Proofs.YtamajfcjcfkkjaaW.PrintWords Go.Proofs.YtamajfcjcfkkjaaW.PrintLast Go.Proofs.YtamajfcjcfkkjaaW.PrintMore
set_option linter.unusedVariables false
set_option linter.unusedSimpArgs false
theorem i64_of_wf (x : Int) (h : (Lit.int .i64 x).wf = true) : -9223372036854775808 ≤ x ∧ x ≤ 9223372036854775807 := by
  have h := (Lit.wf_int_iff .i64 x).1 h
  have h1 : IntKind.i64.min = -9223372036854775808 := by decide
  have h2 : IntKind.i64.max = 9223372036854775807 := by decide
  omega
/-- A number as a value of a type. -/
def Wt (t v : Int) : Int := if t = 1 then (if v = 0 then 0 else 1) else if t = 2 then (v + 32768) % 65536 - 32768 else if t = 3 then (v + 2147483648) % 4294967296 - 2147483648 else if t = 4 then v % 65536 else if t = 5 then v % 4294967296 else if t = 6 then v else 0
theorem i16_wrap (n : Int) : IntKind.i16.wrap n = (n + 32768) % 65536 - 32768 := by simp [IntKind.wrap, IntKind.bits, IntKind.signed]; omega
theorem wt_is (t v : Int) : kind_Wrap.f t v = some (Wt t v) := by
  unfold kind_Wrap.f Wt
  split
  · split <;> rfl
  split
  · congr 1
    rw [i16_wrap]
    unfold wrap64
    omega
  split
  · congr 1
    unfold wrap32 wrap64
    omega
  split
  · congr 1
    rw [IntKind.wrap_u16]
    unfold wrap64
    omega
  split
  · rfl
  split <;> rfl
def Rt (t : Int) : Bool := decide (1 ≤ t ∧ t ≤ 6)
theorem ref_right_is (t : Int) : ladderbackref01_Right.f t = some (Rt t) := by
  unfold ladderbackref01_Right.f Rt
  split <;> (congr 1; rw [Bool.eq_iff_iff]; simp; omega)
theorem kinds6 (t : Int) : t = 1 ∨ t = 2 ∨ t = 3 ∨ t = 4 ∨ t = 5 ∨ t = 6 ∨ Rt t = false := by unfold Rt; simp; omega
theorem tmodq (v m : Int) (hm : 0 < m) : ∃ q r, v.tmod m = r ∧ v = m * q + r ∧ (0 ≤ v → 0 ≤ r ∧ r < m) ∧ (v < 0 → -m < r ∧ r ≤ 0) := by
  refine ⟨v.tdiv m, v.tmod m, rfl, (Int.mul_tdiv_add_tmod v m).symm, fun h => ⟨Int.tmod_nonneg m h, Int.tmod_lt_of_pos v hm⟩, fun h => ?_⟩
  have h1 := Int.tmod_nonneg m (show 0 ≤ -v by omega)
  have h2 := Int.tmod_lt_of_pos (-v) hm
  rw [Int.neg_tmod] at h1 h2
  omega
theorem ref_wrap_is (t v : Int) (hv : -9223372036854775808 ≤ v ∧ v ≤ 9223372036854775807) : ladderbackref01_Wrap.f t v = some (Wt t v) := by
  obtain ⟨q1, r1, e1, h1, p1, n1⟩ := tmodq v 65536 (by decide)
  obtain ⟨q2, r2, e2, h2, p2, n2⟩ := tmodq v 4294967296 (by decide)
  unfold ladderbackref01_Wrap.f
  rw [ref_right_is, Option.bind_some]
  rcases kinds6 t with rfl | rfl | rfl | rfl | rfl | rfl | h
  · simp [Rt, Wt]; split <;> rfl
  · simp only [Rt, Wt, ladderbackref01_High.f, ladderbackref01_Low.f, wrap64, Option.bind_some]
    simp [e1]
    repeat' split
    all_goals (try (congr 1))
    all_goals omega
  · simp only [Rt, Wt, ladderbackref01_High.f, ladderbackref01_Low.f, wrap64, Option.bind_some]
    simp [e2]
    repeat' split
    all_goals (try (congr 1))
    all_goals omega
  · simp only [Rt, Wt, ladderbackref01_High.f, ladderbackref01_Low.f, wrap64, Option.bind_some]
    simp [e1]
    repeat' split
    all_goals (try (congr 1))
    all_goals omega
  · simp only [Rt, Wt, ladderbackref01_High.f, ladderbackref01_Low.f, wrap64, Option.bind_some]
    simp [e2]
    repeat' split
    all_goals (try (congr 1))
    all_goals omega
  · simp [Rt, Wt]
  · rw [h]
    simp [Rt] at h
    unfold Wt
    rw [if_neg (by simp), if_neg (by omega), if_neg (by omega), if_neg (by omega), if_neg (by omega), if_neg (by omega), if_neg (by omega)]
theorem wrapF_is (t v : Int) : wrapF t v = Wt t v := Option.some.inj ((wrap_is t v).symm.trans (wt_is t v))
theorem wrapF_zero (t : Int) : wrapF t 0 = 0 := by rw [wrapF_is]; unfold Wt; simp
theorem ref_wrapF (t v : Int) (hv : -9223372036854775808 ≤ v ∧ v ≤ 9223372036854775807) : ladderbackref01_Wrap.f t v = some (wrapF t v) := by rw [wrapF_is]; exact ref_wrap_is t v hv
theorem next_lt {L : List Int} {N : Nat} (h : N < L.length) : nextF L (min N L.length) = (L[N], N + 1) := by
  rw [Nat.min_eq_left (by omega)]; unfold nextF; rw [dif_pos h]
theorem next_ge {L : List Int} {N : Nat} (h : ¬ N < L.length) : nextF L (min N L.length) = (0, L.length) := by
  rw [Nat.min_eq_right (by omega)]; unfold nextF; rw [dif_neg (by omega)]
theorem row_step {α : Type} (R : List α) (i : Nat) (hi : i < R.length) (x : α) (F : List α → List α) : (R.set i x).take (i + 1) ++ F ((R.set i x).drop (i + 1)) = R.take i ++ (x :: F (R.drop (i + 1))) := by
  rw [List.take_add_one, List.getElem?_set_self hi, List.take_set_of_le (Nat.le_refl _), List.drop_set_of_lt (by omega)]
  simp
theorem b_l1 (v : LV) (V : LL) (L : List Int) (B : LI) (n f n1 f1 : Int) (hL : ∀ x ∈ L, -9223372036854775808 ≤ x ∧ x ≤ 9223372036854775807) (j : Nat) (hj : j < v.length) (hjV : j < V.length) (hs : v[j].f3 = 1) (O0 : LL) (hO : j < O0.length) (hjb : j < 1000000) (hle : V[j].length ≤ 1000) :
    ∀ (d i N k : Nat) (R : List Int), R.length = V[j].length → i + d = V[j].length → 2 * d + 2 ≤ k → N + d ≤ 1000000 →
      ladderbackref24_Begin.l1 k v L (N : Int) (j : Int) (i : Int) V B n f (O0.set j R) B n1 f1 = ladderbackref24_Begin.l0 (k - (2 * d + 2)) v L ((N + d : Nat) : Int) ((j + 1 : Nat) : Int) V B n f (O0.set j (R.take i ++ (fillF v[j].f1 L (min N L.length) (R.drop i)).1)) B n1 f1 ∧ (fillF v[j].f1 L (min N L.length) (R.drop i)).2 = min (N + d) L.length := by
  intro d
  induction d with
  | zero =>
    intro i N k R hR hi hk hN
    obtain ⟨k, rfl⟩ : ∃ m, k = m + 2 := ⟨k - 2, by omega⟩
    have e1 : R.drop i = [] := List.drop_eq_nil_of_le (by omega)
    have e2 : R.take i = R := List.take_of_length_le (by omega)
    refine ⟨?_, by rw [e1]; rfl⟩
    rw [ladderbackref24_Begin.l1, if_pos (by omega), if_pos (by omega), rdL V j hjV, if_neg (by omega), ladderbackref24_Begin.j6, if_neg (by decide), wn j (by omega), e1, e2]
    simp [fillF]
  | succ d ih =>
    intro i N k R hR hi hk hN
    obtain ⟨k, rfl⟩ : ∃ m, k = m + 2 := ⟨k - 2, by omega⟩
    have hiR : i < R.length := by omega
    have hOj : j < (O0.set j R).length := by rw [List.length_set]; exact hO
    have hOe : rd_L1 (O0.set j R) (j : Int) = R := by rw [rdL _ j hOj]; exact List.getElem_set_self hOj
    have hOe0 : rd_L1 (O0.set j (R.set i 0)) (j : Int) = R.set i 0 := by rw [rdL _ j (by rw [List.length_set]; exact hO)]; exact List.getElem_set_self _
    have hd : R.drop i = R[i] :: R.drop (i + 1) := List.drop_eq_getElem_cons hiR
    have key : ∀ x : Int, ∀ q : Nat, nextF L (min N L.length) = (x, q) → q = min (N + 1) L.length → 
        (O0.set j (R.take i ++ (fillF v[j].f1 L (min N L.length) (R.drop i)).1)) = O0.set j ((R.set i (wrapF v[j].f1 x)).take (i + 1) ++ (fillF v[j].f1 L (min (N + 1) L.length) ((R.set i (wrapF v[j].f1 x)).drop (i + 1))).1) ∧ (fillF v[j].f1 L (min N L.length) (R.drop i)).2 = (fillF v[j].f1 L (min (N + 1) L.length) ((R.set i (wrapF v[j].f1 x)).drop (i + 1))).2 := by
      intro x q hq hqm
      have hdr : (R.set i (wrapF v[j].f1 x)).drop (i + 1) = R.drop (i + 1) := List.drop_set_of_lt (by omega)
      rw [row_step R i hiR (wrapF v[j].f1 x) (fun z => (fillF v[j].f1 L (min (N + 1) L.length) z).1), hdr, hd, fillF, hq, ← hqm]
      exact ⟨rfl, rfl⟩
    rw [ladderbackref24_Begin.l1, if_pos (by omega), if_pos (by omega), rdL V j hjV, if_pos (by omega), if_pos (by omega), rdV v j hj, hs, ladderbackref24_Begin.j6, if_pos (by decide), if_pos (by omega), if_pos (by rw [List.length_set]; omega), if_pos (by omega), hOe, if_pos (by omega), Option.bind_some]
    simp only [Int.toNat_natCast]
    rw [List.set_set]
    by_cases hlt : N < L.length
    · obtain ⟨k1, k2⟩ := key _ _ (next_lt hlt) (by omega)
      obtain ⟨i1, i2⟩ := ih (i + 1) (N + 1) k (R.set i (wrapF v[j].f1 L[N])) (by rw [List.length_set]; exact hR) (by omega) (by omega) (by omega)
      rw [if_pos (by omega), if_pos (by omega), if_pos (by omega), rdV v j hj, rdn L N hlt, ref_wrapF _ _ (hL _ (List.getElem_mem hlt)), Option.bind_some, hOe0, if_pos (by rw [List.length_set]; omega), wn N (by omega), wn i (by omega)]
      rw [List.set_set, List.set_set, i1, k1, k2, i2]
      refine ⟨?_, ?_⟩
      · rw [show k - (2 * d + 2) = k + 2 - (2 * (d + 1) + 2) by omega, show N + 1 + d = N + (d + 1) by omega]
      · rw [show N + 1 + d = N + (d + 1) by omega]
    · obtain ⟨k1, k2⟩ := key _ _ (next_ge hlt) (by omega)
      rw [wrapF_zero] at k1 k2
      obtain ⟨i1, i2⟩ := ih (i + 1) (N + 1) k (R.set i 0) (by rw [List.length_set]; exact hR) (by omega) (by omega) (by omega)
      rw [if_neg (by omega), wn N (by omega), wn i (by omega)]
      rw [i1, k1, k2, i2]
      refine ⟨?_, ?_⟩
      · rw [show k - (2 * d + 2) = k + 2 - (2 * (d + 1) + 2) by omega, show N + 1 + d = N + (d + 1) by omega]
      · rw [show N + 1 + d = N + (d + 1) by omega]
theorem fillF_len (t : Int) (L : List Int) : ∀ (l : List Int) (n : Nat), (fillF t L n l).1.length = l.length
  | [], _ => rfl
  | _ :: r, n => by
    show (wrapF t (nextF L n).1 :: (fillF t L (nextF L n).2 r).1).length = _
    rw [List.length_cons, fillF_len t L r, List.length_cons]
theorem b_l0 (v : LV) (V : LL) (L : List Int) (B : LI) (n f n1 f1 : Int) (hL : ∀ x ∈ L, -9223372036854775808 ≤ x ∧ x ≤ 9223372036854775807) (hV : ∀ l ∈ V, l.length ≤ 100) (hv : v.length ≤ 1000) :
    ∀ (e j N k : Nat) (O : LL), j + e = v.length → O.length = V.length → (∀ (i : Nat) (h1 : i < O.length) (h2 : i < V.length), O[i].length = V[i].length) → N ≤ 100 * j → 210 * e + 3 ≤ k →
      ladderbackref24_Begin.l0 k v L (N : Int) (j : Int) V B n f O B n1 f1 = some (O.take j ++ beginV L (min N L.length) (v.drop j) (O.drop j), B, n1, f1) := by
  intro e
  induction e with
  | zero =>
    intro j N k O hj hO hr hN hk
    obtain ⟨k, rfl⟩ : ∃ m, k = m + 2 := ⟨k - 2, by omega⟩
    have e1 : v.drop j = [] := List.drop_eq_nil_of_le (by omega)
    rw [ladderbackref24_Begin.l0, if_neg (by omega), ladderbackref24_Begin.j4, if_neg (by decide), e1, beginV_end, List.take_append_drop]
  | succ e ih =>
    intro j N k O hj hO hr hN hk
    obtain ⟨k, rfl⟩ : ∃ m, k = m + 2 := ⟨k - 2, by omega⟩
    have hjv : j < v.length := by omega
    rw [ladderbackref24_Begin.l0, if_pos (by omega), ladderbackref24_Begin.j4]
    by_cases hjV : j < V.length
    · rw [if_pos (decide_eq_true (by omega))]
      have hjO : j < O.length := by omega
      have hVj := hV V[j] (List.getElem_mem hjV)
      have hrj := hr j hjO hjV
      have hd : v.drop j = v[j] :: v.drop (j + 1) := List.drop_eq_getElem_cons hjv
      have hdO : O.drop j = O[j] :: O.drop (j + 1) := List.drop_eq_getElem_cons hjO
      by_cases hs : v[j].f3 = 1
      · have hb := b_l1 v V L B n f n1 f1 hL j hjv hjV hs O hjO (by omega) (by omega) V[j].length 0 N k O[j] hrj (by omega) (by omega) (by omega)
        rw [List.set_getElem_self, List.take_zero, List.nil_append, List.drop_zero] at hb
        obtain ⟨b1, b2⟩ := hb
        rw [show ((0 : Nat) : Int) = 0 from rfl] at b1
        rw [b1, ih (j + 1) (N + V[j].length) (k - (2 * V[j].length + 2)) _ (by omega) (by rw [List.length_set]; exact hO) ?_ (by omega) (by omega)]
        · rw [row_step O j hjO _ (fun z => beginV L (min (N + V[j].length) L.length) (v.drop (j + 1)) z), hd, hdO, beginV, if_pos hs, b2]
        · intro i h1 h2
          rw [List.getElem_set]
          split
          · rename_i e; subst e; rw [fillF_len]; exact hrj
          · exact hr i (by rw [List.length_set] at h1; exact h1) h2
      · obtain ⟨k, rfl⟩ : ∃ m, k = m + 2 := ⟨k - 2, by omega⟩
        have hj6 : ladderbackref24_Begin.j6 (k + 1) v L (N : Int) (j : Int) 0 false V B n f O B n1 f1 = ladderbackref24_Begin.l0 k v L (N : Int) ((j + 1 : Nat) : Int) V B n f O B n1 f1 := by
          rw [ladderbackref24_Begin.j6, if_neg (by decide), wn j (by omega)]
        have hl1 : ladderbackref24_Begin.l1 (k + 2) v L (N : Int) (j : Int) 0 V B n f O B n1 f1 = ladderbackref24_Begin.l0 k v L (N : Int) ((j + 1 : Nat) : Int) V B n f O B n1 f1 := by
          rw [ladderbackref24_Begin.l1, if_pos (by omega), if_pos (by omega), rdV v j hjv, beq_eq_false_iff_ne.2 hs]
          split
          · rw [if_pos (by omega)]; exact hj6
          · exact hj6
        rw [hl1, ih (j + 1) N k O (by omega) hO hr (by omega) (by omega), hd, hdO, beginV, if_neg hs, List.take_add_one, List.getElem?_eq_getElem hjO, List.append_assoc]
        rfl
    · rw [if_neg (by simp; omega)]
      have e1 : O.drop j = [] := List.drop_eq_nil_of_le (by omega)
      rw [e1, beginV_nil, List.append_nil, List.take_of_length_le (by omega)]
theorem now_is (n dt : Int) : nowF n dt = (if n > wrap64 (1099511627776 - (if (if dt < 0 then 0 else dt) > 1099511627776 then 1099511627776 else (if dt < 0 then 0 else dt))) then 1099511627776 else wrap64 (n + (if (if dt < 0 then 0 else dt) > 1099511627776 then 1099511627776 else (if dt < 0 then 0 else dt)))) := by
  have hw : mx 0 (mn dt 1099511627776) = (if (if dt < 0 then 0 else dt) > 1099511627776 then 1099511627776 else (if dt < 0 then 0 else dt)) := by
    unfold mx mn; (repeat' split) <;> omega
  unfold nowF
  rw [hw]
  generalize hd : (if (if dt < 0 then 0 else dt) > 1099511627776 then 1099511627776 else (if dt < 0 then 0 else dt)) = d
  have hd0 : 0 ≤ d ∧ d ≤ 1099511627776 := by subst hd; (repeat' split) <;> omega
  have e1 : wrap64 (1099511627776 - d) = 1099511627776 - d := by unfold wrap64; omega
  rw [e1]
  unfold mn
  split
  · unfold wrap64; omega
  · rfl
theorem ref_begin (v : LV) (V : LL) (L : List Int) (B : LI) (n f dt : Int) (hs : Sh V B) (hL : ∀ x ∈ L, -9223372036854775808 ≤ x ∧ x ≤ 9223372036854775807) (hv : v.length ≤ 70) (k : Nat) (hk : 15000 ≤ k) :
    ladderbackref24_Begin.f k v V B n f L dt = some (beginV L 0 v V, B, nowF n dt, f) := by
  obtain ⟨k, rfl⟩ : ∃ m, k = m + 3 := ⟨k - 3, by omega⟩
  have main : ∀ n1, ladderbackref24_Begin.j2 (k + 1) v L V B n f V B n1 f = some (beginV L 0 v V, B, n1, f) := by
    intro n1
    rw [ladderbackref24_Begin.j2]
    have := b_l0 v V L B n f n1 f hL hs.2.2 (by omega) v.length 0 0 k V (by omega) rfl (fun _ _ _ => rfl) (by omega) (by omega)
    rw [show ((0 : Nat) : Int) = 0 from rfl] at this
    rw [this]
    simp
  unfold ladderbackref24_Begin.f
  rw [rclone_is V B n f hs (k + 3) (by omega), Option.bind_some]
  simp only
  rw [now_is]
  have hj1 : ∀ d, ladderbackref24_Begin.j1 (k + 2) v L d V B n f V B n f = some (beginV L 0 v V, B, (if n > wrap64 (1099511627776 - d) then 1099511627776 else wrap64 (n + d)), f) := by
    intro d
    rw [ladderbackref24_Begin.j1]
    split
    · exact main _
    · exact main _
  have hj0 : ∀ d, ladderbackref24_Begin.j0 (k + 3) v L d V B n f V B n f = some (beginV L 0 v V, B, (if n > wrap64 (1099511627776 - (if d > 1099511627776 then 1099511627776 else d)) then 1099511627776 else wrap64 (n + (if d > 1099511627776 then 1099511627776 else d))), f) := by
    intro d
    rw [ladderbackref24_Begin.j0]
    split
    · exact hj1 _
    · exact hj1 _
  split
  · exact hj0 _
  · exact hj0 _
theorem cbegin_is (v : LV) (V : LL) (L : List Int) (B : LI) (n f dt : Int) (hs : Sh V B) : cycle_Begin.f v V B n f L dt = some (beginV L 0 v V, B, nowF n dt, f) := by
  unfold cycle_Begin.f
  rw [if_pos (sclone_is V B n f hs 2000 (by decide))]
theorem beginV_sh {L : List Int} : ∀ {v : LV} {V : LL} {n : Nat}, (beginV L n v V).length = V.length ∧ ∀ l ∈ beginV L n v V, ∃ l' ∈ V, l.length = l'.length
  | [], V, n => by rw [beginV_end]; exact ⟨rfl, fun l hl => ⟨l, hl, rfl⟩⟩
  | _ :: _, [], n => by rw [beginV_nil]; exact ⟨rfl, fun l hl => ⟨l, hl, rfl⟩⟩
  | x :: v, l0 :: V, n => by
    rw [beginV]
    split
    · obtain ⟨h1, h2⟩ := beginV_sh (L := L) (v := v) (V := V) (n := (fillF x.f1 L n l0).2)
      refine ⟨by rw [List.length_cons, h1, List.length_cons], fun l hl => ?_⟩
      rcases List.mem_cons.1 hl with rfl | hl
      · exact ⟨l0, List.mem_cons_self, fillF_len _ _ _ _⟩
      · obtain ⟨l', h3, h4⟩ := h2 l hl
        exact ⟨l', List.mem_cons_of_mem _ h3, h4⟩
    · obtain ⟨h1, h2⟩ := beginV_sh (L := L) (v := v) (V := V) (n := n)
      refine ⟨by rw [List.length_cons, h1, List.length_cons], fun l hl => ?_⟩
      rcases List.mem_cons.1 hl with rfl | hl
      · exact ⟨l, List.mem_cons_self, rfl⟩
      · obtain ⟨l', h3, h4⟩ := h2 l hl
        exact ⟨l', List.mem_cons_of_mem _ h3, h4⟩
theorem awake24 : ladderbacklaw24_awake.f = some true := by
  unfold ladderbacklaw24_awake.f
  rw [cbegin_is _ _ _ _ _ _ _ ⟨by decide, by decide, by decide⟩, Option.bind_some]
  have e : beginV [5] 0 [(⟨(⟨#[]⟩ : ByteArray), 1, 1, 1, 0⟩ : S60)] [[0]] = [[1]] := by
    have : wrapF 1 5 = 1 := by rw [wrapF_is]; decide
    simp [beginV, fillF, nextF, this]
  have hn : nowF 0 7 = 7 := by unfold nowF mx mn wrap64; simp
  rw [e, hn]
  rfl
theorem CycleBegins (c : LC) (v : LV) (b : LB) (u : LU) (V : LL) (B : LI) (n f : Int) (L : List Int) (hL : ∀ x ∈ L, -9223372036854775808 ≤ x ∧ x ≤ 9223372036854775807) : ladderbacklaw24_CycleBegins.f 20000 c v b u V B n f L = some true := by
  obtain ⟨s1, e1, h1⟩ := short_is V B n f
  obtain ⟨s3, e3, h3⟩ := few_is c v b u
  have jt : ladderbacklaw24_CycleBegins.j0 20000 L true c v b u V B n f = some true := by
    rw [ladderbacklaw24_CycleBegins.j0, if_pos rfl, awake24, Option.bind_some]
  unfold ladderbacklaw24_CycleBegins.f
  rw [e3 _ (by omega), Option.bind_some]
  cases s3 with
  | false => rw [if_neg (by decide)]; exact jt
  | true =>
    rw [if_pos rfl, e1 _ (by omega), Option.bind_some]
    cases s1 with
    | false => rw [if_neg (by decide)]; exact jt
    | true =>
      rw [if_pos rfl]
      have hs := h1 rfl
      obtain ⟨v1, v2, v3⟩ := hs
      obtain ⟨f1, f3⟩ := h3 rfl
      have hs := h1 rfl
      by_cases hl : (L.length : Int) > 300
      · rw [decide_eq_true hl]; exact jt
      rw [decide_eq_false hl, ladderbacklaw24_CycleBegins.j0, if_neg (by decide), rclone_is V B n f hs 19999 (by decide), Option.bind_some]
      simp only
      have bl := beginV_sh (L := L) (v := v) (V := V) (n := 0)
      have hbs : ∀ dt k, 15000 ≤ k → ladderbackref23_Same.f k (beginV L 0 v V) B (nowF n dt) f (beginV L 0 v V) B (nowF n dt) f = some true := by
        intro dt k hk
        rw [same_is _ _ B B _ f _ f (by rw [bl.1]; exact v1) (fun l hl => by obtain ⟨l', h3, h4⟩ := bl.2 l hl; have := v3 l' h3; omega) v2 k (by omega), eqB_self]
      have last : ∀ x k, 15000 ≤ k → ladderbacklaw24_CycleBegins.j2 (k + 1) L x false c v b u V B n f V B n f = some true := by
        intro x k hk
        rw [ladderbacklaw24_CycleBegins.j2, if_neg (by decide), cbegin_is v V L B n f 0 hs, Option.bind_some, ref_begin v V L B n f 0 hs hL f1 k hk, Option.bind_some]
        simp only
        rw [hbs 0 k hk, Option.bind_some, if_pos rfl, same_is V V B B n f n f v1 (fun l hl => by have := v3 l hl; omega) v2 k (by omega), Option.bind_some, eqB_self, if_pos rfl, awake24, Option.bind_some]
      have main : ∀ m : Nat, ∀ x : Nat, x + m = 3 → ∀ k : Nat, 15010 + 2 * m ≤ k → ladderbacklaw24_CycleBegins.l0 k L (x : Int) c v b u V B n f V B n f = some true := by
        intro m
        induction m with
        | zero =>
          intro x hx k hk
          obtain ⟨k, rfl⟩ : ∃ m, k = m + 2 := ⟨k - 2, by omega⟩
          rw [ladderbacklaw24_CycleBegins.l0]
          split
          · rw [decide_eq_false (by omega)]; exact last _ k (by omega)
          · exact last _ k (by omega)
        | succ m ih =>
          intro x hx k hk
          obtain ⟨k, rfl⟩ : ∃ m, k = m + 2 := ⟨k - 2, by omega⟩
          rw [ladderbacklaw24_CycleBegins.l0]
          split
          · rename_i hxl
            rw [decide_eq_true (by omega), ladderbacklaw24_CycleBegins.j2, if_pos rfl, if_pos (by omega), if_pos hxl, cbegin_is v V L B n f _ hs, Option.bind_some, ref_begin v V L B n f _ hs hL f1 k (by omega), Option.bind_some]
            simp only
            rw [hbs _ k (by omega), Option.bind_some, if_pos rfl, wn x (by omega)]
            exact ih (x + 1) (by omega) k (by omega)
          · exact last _ k (by omega)
      exact main 3 0 rfl 19999 (by decide)
end Go.Proofs.Ytamajfcjcfkkjaa.RPure
end

section
/- The walk of CycleBegins over what is read as data. -/
namespace Go.Proofs.Ytamajfcjcfkkjaa
open Go Go.RowKit Go.Proofs.Ytamajfcjcfkkjaa.PSt Go.Proofs.YtamajfcjcfkkjaaW.PrintWords
theorem CycleBegins_walk (cp : Array Value) (p : List S104 × List S60 × List S62 × List S66) (ca : Array Value) (a : List (List Int) × List S69 × Int × Int) (Ai : Option Addr) (ci : Nat) (L : List Int) (w : World) (hp : StRow.KProg.K w p cp.toList) (_ : True) (ha : StRow.KState.K w a ca.toList) (_ : True) (hL : Kd.C (Kd.int .i64) w Ai L.length L) (lL : L.length ≤ ci) (hw : ∀ a ∈ L, (Lit.int .i64 a).wf = true) :
    Calls Try.prog 3 #[.agg cp, .agg ca, .slice Ai L.length ci] w fun e w' => e = .returned (.bool true) ∧ Below w.heap.size w w' := by
  obtain ⟨A0, c0, A1, c1, rfl, ⟨g0, l0⟩, ⟨g1, l1⟩⟩ := StRow.state_of ha
  obtain ⟨A4, c4, A5, c5, A6, c6, A7, c7, rfl, ⟨g4, l4⟩, ⟨g5, l5⟩, ⟨g6, l6⟩, ⟨g7, l7⟩⟩ := StRow.prog_of hp
  exact ladderbacklaw24_CycleBegins.calls 20000 A4 c4 p.1 A5 c5 p.2.1 A6 c6 p.2.2.1 A7 c7 p.2.2.2 A0 c0 a.1 A1 c1 a.2.1 a.2.2.1 a.2.2.2 Ai ci L true w g4 l4 g5 l5 g6 l6 g7 l7 g0 l0 g1 l1 hL lL (RPure.CycleBegins _ _ _ _ _ _ _ _ _ (fun x hx => RPure.i64_of_wf x (hw x hx)))
end Go.Proofs.Ytamajfcjcfkkjaa
end

section
/- The law CycleBegins holds for every input: the walk over its code shows that the call returns true and that what was read stays as it was; the row follows. -/
namespace Go.Proofs.Ytamajfcjcfkkjaa.cycleBeginsRw
open Go.ChangeShapes Go.WideShapes Go.ChangeAt Go.RowKit
open Go.ChangeMaps (open_string shut_string)
open Go.Proofs.Ytamajfcjcfkkjaa.Bridge
set_option linter.unusedVariables false
set_option linter.unusedSimpArgs false
theorem own : ownKnob Try.prog.godebug = none := by kernel_rfl
theorem laidOut : laidOutB Try.prog = true := by kernel_rfl
set_option maxRecDepth 100000 in
theorem lifted (os : Os) (started : os.Started) (H : Type) (enc : TypeId × Value → H) :
    ReturnsInHanded {} Try.checked os 3 .any (Rows.cycleBeginsSpec.pre6 enc Try.prog Try.f3 Rows.cycleBeginsRow.domain false) (Rows.cycleBeginsSpec.post enc Try.prog Try.f3 false true false false) := by
  refine returnsInHanded_of_change_sized (C := Try.checked) own started (by kernel_rfl) Try.func3
    (ChangeSpec.witness6 (enc := enc) (C := Try.checked) false ⟨#[], #[.agg #[.slice none 0 0, .slice none 0 0, .slice none 0 0, .slice none 0 0], .agg #[.slice none 0 0, .slice none 0 0, .int .i64 0, .int .i64 0], .slice none 0 0], []⟩ 8 (by kernel_rfl) (by kernel_rfl) (by kernel_rfl) (by kernel_rfl)) ?_
  intro W base args ds gs before hval0 hW hcnd hsz0 _
  have hval : ∀ (j : Nat) t v, Try.f3.params[j]? = some t → args[j]? = some v → Value.okWide Try.prog W .any base t v := hval0
  have hsz : (DataW.weightsEach Try.prog (Try.f3.params.toList ++ Rows.cycleBeginsSpec.plain.varTypes Try.prog) (ds ++ gs)).all (· ≤ reachBytes) = true := hsz0
  clear hval0 hsz0 hcnd
  have hW' := hW
  obtain ⟨p, q, hA0, hV, rfl, hfz, hnd⟩ := hW
  have hA : DataW.TrodAll enc Try.prog W 0 (fun _ => true) true Try.f3.params.toList args.toList ds p := hA0
  rw [Try.params3] at hA hval hsz
  obtain ⟨v0, vs0, d0, ds0, p0, q0, hargs, rfl, rfl, h0, r0⟩ := trodAll_cons hA
  obtain ⟨v1, vs1, d1, ds1, p1, q1, rfl, rfl, rfl, h1, r1⟩ := trodAll_cons r0
  obtain ⟨v2, vs2, d2, ds2, p2, q2, rfl, rfl, rfl, h2, r2⟩ := trodAll_cons r1
  obtain ⟨rfl, rfl, rfl⟩ := trodAll_nil r2
  obtain rfl : args = #[v0, v1, v2] := by cases args; simp_all
  obtain ⟨rfl, rfl⟩ := trodVars_none hV
  clear hA0
  have k0 := h0
  have lt0 : ∀ x ∈ p0, x.block < W.heap.size := by obtain ⟨m, hm⟩ := k0; exact DataW.trod_lt m _ _ _ hm
  obtain ⟨cs0, rfl⟩ : ∃ cs, v0 = .agg cs := by
    have z := (hval 0 27 v0 rfl rfl)
    unfold Value.okWide at z
    rw [Try.underlying27] at z
    obtain ⟨cs, e, _⟩ := z
    exact ⟨cs, e⟩
  obtain ⟨x0, hk0, wf0⟩ := Rdga.trod StRow.rd_prog h0
  have k1 := h1
  have lt1 : ∀ x ∈ p1, x.block < W.heap.size := by obtain ⟨m, hm⟩ := k1; exact DataW.trod_lt m _ _ _ hm
  obtain ⟨cs1, rfl⟩ : ∃ cs, v1 = .agg cs := by
    have z := (hval 1 31 v1 rfl rfl)
    unfold Value.okWide at z
    rw [Try.underlying31] at z
    obtain ⟨cs, e, _⟩ := z
    exact ⟨cs, e⟩
  obtain ⟨x1, hk1, wf1⟩ := Rdga.trod StRow.rd_state h1
  have k2 := h2
  have lt2 : ∀ x ∈ p2, x.block < W.heap.size := by obtain ⟨m, hm⟩ := k2; exact DataW.trod_lt m _ _ _ hm
  obtain ⟨A2, len2, c2, rfl⟩ := okWide_slice Try.underlying32 (hval 2 32 v2 rfl rfl)
  obtain ⟨x2, hk2, wf2⟩ := Rdga.trod StRow.rd_ints h2
  obtain ⟨A2', c2', he2, hle2, hC2⟩ := hk2
  simp only [Value.cells, List.cons.injEq, Value.slice.injEq, and_true] at he2
  obtain ⟨rfl, rfl, rfl⟩ := he2
  refine (CycleBegins_walk cs0 x0 cs1 x1 A2 c2 x2 W hk0 wf0 hk1 wf1 hC2 hle2 wf2).mono fun e W' ⟨he, bel⟩ => ?_
  subst he
  exact ⟨_, rfl, _, _, _, [], _, [], hW', trodAll_mk1 (shut_bool Try.underlying4 _), (trodAll_cons_mk (Below.trod laidOut (by kernel_rfl) (of_decide_eq_true (by kernel_rfl)) k0 bel lt0) (trodAll_cons_mk (Below.trod laidOut (by kernel_rfl) (of_decide_eq_true (by kernel_rfl)) k1 bel lt1) (trodAll_cons_mk (Below.trod laidOut (by kernel_rfl) (of_decide_eq_true (by kernel_rfl)) k2 bel lt2) trodAll_mk0))), rfl, bel.frame _, fun h => by cases h⟩
theorem over : Rows.cycleBeginsRow.holds Try.pinned (OpenSpec.ofChange Rows.cycleBeginsSpec) :=
  OpenClaim.holds_of_wide 3 Try.f3 rfl rfl rfl rfl rfl rfl rfl ⟨rfl, rfl, rfl, rfl, rfl⟩ rfl rfl rfl rfl rfl (by kernel_rfl) Try.func3 (by kernel_rfl)
    (of_decide_eq_true (by kernel_rfl)) (by unfold Func.isWrapper; first | (rw [if_pos (by decide +kernel)]; kernel_rfl) | (rw [if_neg (by decide +kernel)]; exact ⟨rfl, rfl⟩))
    (fun os started H enc _ => lifted os started H enc)
theorem proved : Rows.CycleBeginsSaid := over
end Go.Proofs.Ytamajfcjcfkkjaa.cycleBeginsRw
namespace Go.Proofs.Ytamajfcjcfkkjaa
theorem cycleBegins_holds : Rows.CycleBeginsSaid := cycleBeginsRw.proved
#print axioms cycleBegins_holds
end Go.Proofs.Ytamajfcjcfkkjaa
end

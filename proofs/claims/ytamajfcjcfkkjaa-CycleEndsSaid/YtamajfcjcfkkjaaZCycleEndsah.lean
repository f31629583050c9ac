/- A scan's end: the contracts, and the document's End walked by hand. -/
import Derived.DataShut
import Derived.Laws.BitsAllLaws
import Derived.Laws.CopyOwn
import Derived.Test.YtamajfcjcfkkjaaZCycleEndsaa
import Derived.Test.YtamajfcjcfkkjaaZCycleEndsac
import Derived.Test.YtamajfcjcfkkjaaZCycleEndsad
import Derived.Test.YtamajfcjcfkkjaaZCycleEndsae
import Derived.Test.YtamajfcjcfkkjaaZCycleEndsaf
import Derived.Test.YtamajfcjcfkkjaaZCycleEndsag
section
/- The law CycleBegins, in plain Lean. -/
namespace Go.Proofs.Ytamajfcjcfkkjaa.RPure
open Go Go.RowKit Go.Proofs.Ytamajfcjcfkkjaa.PSt Go.Proofs.Ytamajfcjcfkkjaa.Given Go.Proofs.YtamajfcjcfkkjaaW.PrintWords Go.Proofs.YtamajfcjcfkkjaaW.PrintLast Go.Proofs.YtamajfcjcfkkjaaW.PrintMore
set_option linter.unusedVariables false
set_option linter.unusedSimpArgs false
/-- A number as a value of a type. -/
def Wt (t v : Int) : Int := if t = 1 then (if v = 0 then 0 else 1) else if t = 2 then (v + 32768) % 65536 - 32768 else if t = 3 then (v + 2147483648) % 4294967296 - 2147483648 else if t = 4 then v % 65536 else if t = 5 then v % 4294967296 else if t = 6 then v else 0
theorem i16_wrap (n : Int) : IntKind.i16.wrap n = (n + 32768) % 65536 - 32768 := by simp [IntKind.wrap, IntKind.bits, IntKind.signed]; omega
theorem wt_is (t v : Int) : kind_Wrap.f t v = some (Wt t v) := by
  unfold kind_Wrap.f Wt
  split
  · split <;> rfl
  split
  · congr 1
    rw [i16_wrap]
    unfold wrap64
    omega
  split
  · congr 1
    unfold wrap32 wrap64
    omega
  split
  · congr 1
    rw [IntKind.wrap_u16]
    unfold wrap64
    omega
  split
  · rfl
  split <;> rfl
def Rt (t : Int) : Bool := decide (1 ≤ t ∧ t ≤ 6)
theorem ref_right_is (t : Int) : ladderbackref01_Right.f t = some (Rt t) := by
  unfold ladderbackref01_Right.f Rt
  split <;> (congr 1; rw [Bool.eq_iff_iff]; simp; omega)
theorem kinds6 (t : Int) : t = 1 ∨ t = 2 ∨ t = 3 ∨ t = 4 ∨ t = 5 ∨ t = 6 ∨ Rt t = false := by unfold Rt; simp; omega
theorem tmodq (v m : Int) (hm : 0 < m) : ∃ q r, v.tmod m = r ∧ v = m * q + r ∧ (0 ≤ v → 0 ≤ r ∧ r < m) ∧ (v < 0 → -m < r ∧ r ≤ 0) := by
  refine ⟨v.tdiv m, v.tmod m, rfl, (Int.mul_tdiv_add_tmod v m).symm, fun h => ⟨Int.tmod_nonneg m h, Int.tmod_lt_of_pos v hm⟩, fun h => ?_⟩
  have h1 := Int.tmod_nonneg m (show 0 ≤ -v by omega)
  have h2 := Int.tmod_lt_of_pos (-v) hm
  rw [Int.neg_tmod] at h1 h2
  omega
theorem ref_wrap_is (t v : Int) (hv : -9223372036854775808 ≤ v ∧ v ≤ 9223372036854775807) : ladderbackref01_Wrap.f t v = some (Wt t v) := by
  obtain ⟨q1, r1, e1, h1, p1, n1⟩ := tmodq v 65536 (by decide)
  obtain ⟨q2, r2, e2, h2, p2, n2⟩ := tmodq v 4294967296 (by decide)
  unfold ladderbackref01_Wrap.f
  rw [ref_right_is, Option.bind_some]
  rcases kinds6 t with rfl | rfl | rfl | rfl | rfl | rfl | h
  · simp [Rt, Wt]; split <;> rfl
  · simp only [Rt, Wt, ladderbackref01_High.f, ladderbackref01_Low.f, wrap64, Option.bind_some]
    simp [e1]
    repeat' split
    all_goals (try (congr 1))
    all_goals omega
  · simp only [Rt, Wt, ladderbackref01_High.f, ladderbackref01_Low.f, wrap64, Option.bind_some]
    simp [e2]
    repeat' split
    all_goals (try (congr 1))
    all_goals omega
  · simp only [Rt, Wt, ladderbackref01_High.f, ladderbackref01_Low.f, wrap64, Option.bind_some]
    simp [e1]
    repeat' split
    all_goals (try (congr 1))
    all_goals omega
  · simp only [Rt, Wt, ladderbackref01_High.f, ladderbackref01_Low.f, wrap64, Option.bind_some]
    simp [e2]
    repeat' split
    all_goals (try (congr 1))
    all_goals omega
  · simp [Rt, Wt]
  · rw [h]
    simp [Rt] at h
    unfold Wt
    rw [if_neg (by simp), if_neg (by omega), if_neg (by omega), if_neg (by omega), if_neg (by omega), if_neg (by omega), if_neg (by omega)]
theorem wrapF_is (t v : Int) : wrapF t v = Wt t v := Option.some.inj ((wrap_is t v).symm.trans (wt_is t v))
theorem wrapF_zero (t : Int) : wrapF t 0 = 0 := by rw [wrapF_is]; unfold Wt; simp
theorem ref_wrapF (t v : Int) (hv : -9223372036854775808 ≤ v ∧ v ≤ 9223372036854775807) : ladderbackref01_Wrap.f t v = some (wrapF t v) := by rw [wrapF_is]; exact ref_wrap_is t v hv
theorem next_lt {L : List Int} {N : Nat} (h : N < L.length) : nextF L (min N L.length) = (L[N], N + 1) := by
  rw [Nat.min_eq_left (by omega)]; unfold nextF; rw [dif_pos h]
theorem next_ge {L : List Int} {N : Nat} (h : ¬ N < L.length) : nextF L (min N L.length) = (0, L.length) := by
  rw [Nat.min_eq_right (by omega)]; unfold nextF; rw [dif_neg (by omega)]
theorem row_step {α : Type} (R : List α) (i : Nat) (hi : i < R.length) (x : α) (F : List α → List α) : (R.set i x).take (i + 1) ++ F ((R.set i x).drop (i + 1)) = R.take i ++ (x :: F (R.drop (i + 1))) := by
  rw [List.take_add_one, List.getElem?_set_self hi, List.take_set_of_le (Nat.le_refl _), List.drop_set_of_lt (by omega)]
  simp
theorem b_l1 (v : LV) (V : LL) (L : List Int) (B : LI) (n f n1 f1 : Int) (hL : ∀ x ∈ L, -9223372036854775808 ≤ x ∧ x ≤ 9223372036854775807) (j : Nat) (hj : j < v.length) (hjV : j < V.length) (hs : v[j].f3 = 1) (O0 : LL) (hO : j < O0.length) (hjb : j < 1000000) (hle : V[j].length ≤ 1000) :
    ∀ (d i N k : Nat) (R : List Int), R.length = V[j].length → i + d = V[j].length → 2 * d + 2 ≤ k → N + d ≤ 1000000 →
      ladderbackref24_Begin.l1 k v L (N : Int) (j : Int) (i : Int) V B n f (O0.set j R) B n1 f1 = ladderbackref24_Begin.l0 (k - (2 * d + 2)) v L ((N + d : Nat) : Int) ((j + 1 : Nat) : Int) V B n f (O0.set j (R.take i ++ (fillF v[j].f1 L (min N L.length) (R.drop i)).1)) B n1 f1 ∧ (fillF v[j].f1 L (min N L.length) (R.drop i)).2 = min (N + d) L.length := by
  intro d
  induction d with
  | zero =>
    intro i N k R hR hi hk hN
    obtain ⟨k, rfl⟩ : ∃ m, k = m + 2 := ⟨k - 2, by omega⟩
    have e1 : R.drop i = [] := List.drop_eq_nil_of_le (by omega)
    have e2 : R.take i = R := List.take_of_length_le (by omega)
    refine ⟨?_, by rw [e1]; rfl⟩
    rw [ladderbackref24_Begin.l1, if_pos (by omega), if_pos (by omega), rdL V j hjV, if_neg (by omega), ladderbackref24_Begin.j6, if_neg (by decide), wn j (by omega), e1, e2]
    simp [fillF]
  | succ d ih =>
    intro i N k R hR hi hk hN
    obtain ⟨k, rfl⟩ : ∃ m, k = m + 2 := ⟨k - 2, by omega⟩
    have hiR : i < R.length := by omega
    have hOj : j < (O0.set j R).length := by rw [List.length_set]; exact hO
    have hOe : rd_L1 (O0.set j R) (j : Int) = R := by rw [rdL _ j hOj]; exact List.getElem_set_self hOj
    have hOe0 : rd_L1 (O0.set j (R.set i 0)) (j : Int) = R.set i 0 := by rw [rdL _ j (by rw [List.length_set]; exact hO)]; exact List.getElem_set_self _
    have hd : R.drop i = R[i] :: R.drop (i + 1) := List.drop_eq_getElem_cons hiR
    have key : ∀ x : Int, ∀ q : Nat, nextF L (min N L.length) = (x, q) → q = min (N + 1) L.length → 
        (O0.set j (R.take i ++ (fillF v[j].f1 L (min N L.length) (R.drop i)).1)) = O0.set j ((R.set i (wrapF v[j].f1 x)).take (i + 1) ++ (fillF v[j].f1 L (min (N + 1) L.length) ((R.set i (wrapF v[j].f1 x)).drop (i + 1))).1) ∧ (fillF v[j].f1 L (min N L.length) (R.drop i)).2 = (fillF v[j].f1 L (min (N + 1) L.length) ((R.set i (wrapF v[j].f1 x)).drop (i + 1))).2 := by
      intro x q hq hqm
      have hdr : (R.set i (wrapF v[j].f1 x)).drop (i + 1) = R.drop (i + 1) := List.drop_set_of_lt (by omega)
      rw [row_step R i hiR (wrapF v[j].f1 x) (fun z => (fillF v[j].f1 L (min (N + 1) L.length) z).1), hdr, hd, fillF, hq, ← hqm]
      exact ⟨rfl, rfl⟩
    rw [ladderbackref24_Begin.l1, if_pos (by omega), if_pos (by omega), rdL V j hjV, if_pos (by omega), if_pos (by omega), rdV v j hj, hs, ladderbackref24_Begin.j6, if_pos (by decide), if_pos (by omega), if_pos (by rw [List.length_set]; omega), if_pos (by omega), hOe, if_pos (by omega), Option.bind_some]
    simp only [Int.toNat_natCast]
    rw [List.set_set]
    by_cases hlt : N < L.length
    · obtain ⟨k1, k2⟩ := key _ _ (next_lt hlt) (by omega)
      obtain ⟨i1, i2⟩ := ih (i + 1) (N + 1) k (R.set i (wrapF v[j].f1 L[N])) (by rw [List.length_set]; exact hR) (by omega) (by omega) (by omega)
      rw [if_pos (by omega), if_pos (by omega), if_pos (by omega), rdV v j hj, rdn L N hlt, ref_wrapF _ _ (hL _ (List.getElem_mem hlt)), Option.bind_some, hOe0, if_pos (by rw [List.length_set]; omega), wn N (by omega), wn i (by omega)]
      rw [List.set_set, List.set_set, i1, k1, k2, i2]
      refine ⟨?_, ?_⟩
      · rw [show k - (2 * d + 2) = k + 2 - (2 * (d + 1) + 2) by omega, show N + 1 + d = N + (d + 1) by omega]
      · rw [show N + 1 + d = N + (d + 1) by omega]
    · obtain ⟨k1, k2⟩ := key _ _ (next_ge hlt) (by omega)
      rw [wrapF_zero] at k1 k2
      obtain ⟨i1, i2⟩ := ih (i + 1) (N + 1) k (R.set i 0) (by rw [List.length_set]; exact hR) (by omega) (by omega) (by omega)
      rw [if_neg (by omega), wn N (by omega), wn i (by omega)]
      rw [i1, k1, k2, i2]
      refine ⟨?_, ?_⟩
      · rw [show k - (2 * d + 2) = k + 2 - (2 * (d + 1) + 2) by omega, show N + 1 + d = N + (d + 1) by omega]
      · rw [show N + 1 + d = N + (d + 1) by omega]
theorem fillF_len (t : Int) (L : List Int) : ∀ (l : List Int) (n : Nat), (fillF t L n l).1.length = l.length
  | [], _ => rfl
  | _ :: r, n => by
    show (wrapF t (nextF L n).1 :: (fillF t L (nextF L n).2 r).1).length = _
    rw [List.length_cons, fillF_len t L r, List.length_cons]
theorem b_l0 (v : LV) (V : LL) (L : List Int) (B : LI) (n f n1 f1 : Int) (hL : ∀ x ∈ L, -9223372036854775808 ≤ x ∧ x ≤ 9223372036854775807) (hV : ∀ l ∈ V, l.length ≤ 100) (hv : v.length ≤ 1000) :
    ∀ (e j N k : Nat) (O : LL), j + e = v.length → O.length = V.length → (∀ (i : Nat) (h1 : i < O.length) (h2 : i < V.length), O[i].length = V[i].length) → N ≤ 100 * j → 210 * e + 3 ≤ k →
      ladderbackref24_Begin.l0 k v L (N : Int) (j : Int) V B n f O B n1 f1 = some (O.take j ++ beginV L (min N L.length) (v.drop j) (O.drop j), B, n1, f1) := by
  intro e
  induction e with
  | zero =>
    intro j N k O hj hO hr hN hk
    obtain ⟨k, rfl⟩ : ∃ m, k = m + 2 := ⟨k - 2, by omega⟩
    have e1 : v.drop j = [] := List.drop_eq_nil_of_le (by omega)
    rw [ladderbackref24_Begin.l0, if_neg (by omega), ladderbackref24_Begin.j4, if_neg (by decide), e1, beginV_end, List.take_append_drop]
  | succ e ih =>
    intro j N k O hj hO hr hN hk
    obtain ⟨k, rfl⟩ : ∃ m, k = m + 2 := ⟨k - 2, by omega⟩
    have hjv : j < v.length := by omega
    rw [ladderbackref24_Begin.l0, if_pos (by omega), ladderbackref24_Begin.j4]
    by_cases hjV : j < V.length
    · rw [if_pos (decide_eq_true (by omega))]
      have hjO : j < O.length := by omega
      have hVj := hV V[j] (List.getElem_mem hjV)
      have hrj := hr j hjO hjV
      have hd : v.drop j = v[j] :: v.drop (j + 1) := List.drop_eq_getElem_cons hjv
      have hdO : O.drop j = O[j] :: O.drop (j + 1) := List.drop_eq_getElem_cons hjO
      by_cases hs : v[j].f3 = 1
      · have hb := b_l1 v V L B n f n1 f1 hL j hjv hjV hs O hjO (by omega) (by omega) V[j].length 0 N k O[j] hrj (by omega) (by omega) (by omega)
        rw [List.set_getElem_self, List.take_zero, List.nil_append, List.drop_zero] at hb
        obtain ⟨b1, b2⟩ := hb
        rw [show ((0 : Nat) : Int) = 0 from rfl] at b1
        rw [b1, ih (j + 1) (N + V[j].length) (k - (2 * V[j].length + 2)) _ (by omega) (by rw [List.length_set]; exact hO) ?_ (by omega) (by omega)]
        · rw [row_step O j hjO _ (fun z => beginV L (min (N + V[j].length) L.length) (v.drop (j + 1)) z), hd, hdO, beginV, if_pos hs, b2]
        · intro i h1 h2
          rw [List.getElem_set]
          split
          · rename_i e; subst e; rw [fillF_len]; exact hrj
          · exact hr i (by rw [List.length_set] at h1; exact h1) h2
      · obtain ⟨k, rfl⟩ : ∃ m, k = m + 2 := ⟨k - 2, by omega⟩
        have hj6 : ladderbackref24_Begin.j6 (k + 1) v L (N : Int) (j : Int) 0 false V B n f O B n1 f1 = ladderbackref24_Begin.l0 k v L (N : Int) ((j + 1 : Nat) : Int) V B n f O B n1 f1 := by
          rw [ladderbackref24_Begin.j6, if_neg (by decide), wn j (by omega)]
        have hl1 : ladderbackref24_Begin.l1 (k + 2) v L (N : Int) (j : Int) 0 V B n f O B n1 f1 = ladderbackref24_Begin.l0 k v L (N : Int) ((j + 1 : Nat) : Int) V B n f O B n1 f1 := by
          rw [ladderbackref24_Begin.l1, if_pos (by omega), if_pos (by omega), rdV v j hjv, beq_eq_false_iff_ne.2 hs]
          split
          · rw [if_pos (by omega)]; exact hj6
          · exact hj6
        rw [hl1, ih (j + 1) N k O (by omega) hO hr (by omega) (by omega), hd, hdO, beginV, if_neg hs, List.take_add_one, List.getElem?_eq_getElem hjO, List.append_assoc]
        rfl
    · rw [if_neg (by simp; omega)]
      have e1 : O.drop j = [] := List.drop_eq_nil_of_le (by omega)
      rw [e1, beginV_nil, List.append_nil, List.take_of_length_le (by omega)]
theorem now_is (n dt : Int) : nowF n dt = (if n > wrap64 (1099511627776 - (if (if dt < 0 then 0 else dt) > 1099511627776 then 1099511627776 else (if dt < 0 then 0 else dt))) then 1099511627776 else wrap64 (n + (if (if dt < 0 then 0 else dt) > 1099511627776 then 1099511627776 else (if dt < 0 then 0 else dt)))) := by
  have hw : mx 0 (mn dt 1099511627776) = (if (if dt < 0 then 0 else dt) > 1099511627776 then 1099511627776 else (if dt < 0 then 0 else dt)) := by
    unfold mx mn; (repeat' split) <;> omega
  unfold nowF
  rw [hw]
  generalize hd : (if (if dt < 0 then 0 else dt) > 1099511627776 then 1099511627776 else (if dt < 0 then 0 else dt)) = d
  have hd0 : 0 ≤ d ∧ d ≤ 1099511627776 := by subst hd; (repeat' split) <;> omega
  have e1 : wrap64 (1099511627776 - d) = 1099511627776 - d := by unfold wrap64; omega
  rw [e1]
  unfold mn
  split
  · unfold wrap64; omega
  · rfl
theorem ref_begin (v : LV) (V : LL) (L : List Int) (B : LI) (n f dt : Int) (hs : Sh V B) (hL : ∀ x ∈ L, -9223372036854775808 ≤ x ∧ x ≤ 9223372036854775807) (hv : v.length ≤ 70) (k : Nat) (hk : 15000 ≤ k) :
    ladderbackref24_Begin.f k v V B n f L dt = some (beginV L 0 v V, B, nowF n dt, f) := by
  obtain ⟨k, rfl⟩ : ∃ m, k = m + 3 := ⟨k - 3, by omega⟩
  have main : ∀ n1, ladderbackref24_Begin.j2 (k + 1) v L V B n f V B n1 f = some (beginV L 0 v V, B, n1, f) := by
    intro n1
    rw [ladderbackref24_Begin.j2]
    have := b_l0 v V L B n f n1 f hL hs.2.2 (by omega) v.length 0 0 k V (by omega) rfl (fun _ _ _ => rfl) (by omega) (by omega)
    rw [show ((0 : Nat) : Int) = 0 from rfl] at this
    rw [this]
    simp
  unfold ladderbackref24_Begin.f
  rw [rclone_is V B n f hs (k + 3) (by omega), Option.bind_some]
  simp only
  rw [now_is]
  have hj1 : ∀ d, ladderbackref24_Begin.j1 (k + 2) v L d V B n f V B n f = some (beginV L 0 v V, B, (if n > wrap64 (1099511627776 - d) then 1099511627776 else wrap64 (n + d)), f) := by
    intro d
    rw [ladderbackref24_Begin.j1]
    split
    · exact main _
    · exact main _
  have hj0 : ∀ d, ladderbackref24_Begin.j0 (k + 3) v L d V B n f V B n f = some (beginV L 0 v V, B, (if n > wrap64 (1099511627776 - (if d > 1099511627776 then 1099511627776 else d)) then 1099511627776 else wrap64 (n + (if d > 1099511627776 then 1099511627776 else d))), f) := by
    intro d
    rw [ladderbackref24_Begin.j0]
    split
    · exact hj1 _
    · exact hj1 _
  split
  · exact hj0 _
  · exact hj0 _
theorem cbegin_is (v : LV) (V : LL) (L : List Int) (B : LI) (n f dt : Int) (hs : Sh V B) : cycle_Begin.f v V B n f L dt = some (beginV L 0 v V, B, nowF n dt, f) := by
  unfold cycle_Begin.f
  rw [if_pos (sclone_is V B n f hs 2000 (by decide))]
theorem beginV_sh {L : List Int} : ∀ {v : LV} {V : LL} {n : Nat}, (beginV L n v V).length = V.length ∧ ∀ l ∈ beginV L n v V, ∃ l' ∈ V, l.length = l'.length
  | [], V, n => by rw [beginV_end]; exact ⟨rfl, fun l hl => ⟨l, hl, rfl⟩⟩
  | _ :: _, [], n => by rw [beginV_nil]; exact ⟨rfl, fun l hl => ⟨l, hl, rfl⟩⟩
  | x :: v, l0 :: V, n => by
    rw [beginV]
    split
    · obtain ⟨h1, h2⟩ := beginV_sh (L := L) (v := v) (V := V) (n := (fillF x.f1 L n l0).2)
      refine ⟨by rw [List.length_cons, h1, List.length_cons], fun l hl => ?_⟩
      rcases List.mem_cons.1 hl with rfl | hl
      · exact ⟨l0, List.mem_cons_self, fillF_len _ _ _ _⟩
      · obtain ⟨l', h3, h4⟩ := h2 l hl
        exact ⟨l', List.mem_cons_of_mem _ h3, h4⟩
    · obtain ⟨h1, h2⟩ := beginV_sh (L := L) (v := v) (V := V) (n := n)
      refine ⟨by rw [List.length_cons, h1, List.length_cons], fun l hl => ?_⟩
      rcases List.mem_cons.1 hl with rfl | hl
      · exact ⟨l, List.mem_cons_self, rfl⟩
      · obtain ⟨l', h3, h4⟩ := h2 l hl
        exact ⟨l', List.mem_cons_of_mem _ h3, h4⟩
theorem awake24 : ladderbacklaw24_awake.f = some true := by
  unfold ladderbacklaw24_awake.f
  rw [cbegin_is _ _ _ _ _ _ _ ⟨by decide, by decide, by decide⟩, Option.bind_some]
  have e : beginV [5] 0 [(⟨(⟨#[]⟩ : ByteArray), 1, 1, 1, 0⟩ : S60)] [[0]] = [[1]] := by
    have : wrapF 1 5 = 1 := by rw [wrapF_is]; decide
    simp [beginV, fillF, nextF, this]
  have hn : nowF 0 7 = 7 := by unfold nowF mx mn wrap64; simp
  rw [e, hn]
  rfl
theorem CycleBegins (c : LC) (v : LV) (b : LB) (u : LU) (V : LL) (B : LI) (n f : Int) (L : List Int) (hL : ∀ x ∈ L, -9223372036854775808 ≤ x ∧ x ≤ 9223372036854775807) : ladderbacklaw24_CycleBegins.f 20000 c v b u V B n f L = some true := by
  obtain ⟨s1, e1, h1⟩ := short_is V B n f
  obtain ⟨s3, e3, h3⟩ := few_is c v b u
  have jt : ladderbacklaw24_CycleBegins.j0 20000 L true c v b u V B n f = some true := by
    rw [ladderbacklaw24_CycleBegins.j0, if_pos rfl, awake24, Option.bind_some]
  unfold ladderbacklaw24_CycleBegins.f
  rw [e3 _ (by omega), Option.bind_some]
  cases s3 with
  | false => rw [if_neg (by decide)]; exact jt
  | true =>
    rw [if_pos rfl, e1 _ (by omega), Option.bind_some]
    cases s1 with
    | false => rw [if_neg (by decide)]; exact jt
    | true =>
      rw [if_pos rfl]
      have hs := h1 rfl
      obtain ⟨v1, v2, v3⟩ := hs
      obtain ⟨f1, f3⟩ := h3 rfl
      have hs := h1 rfl
      by_cases hl : (L.length : Int) > 300
      · rw [decide_eq_true hl]; exact jt
      rw [decide_eq_false hl, ladderbacklaw24_CycleBegins.j0, if_neg (by decide), rclone_is V B n f hs 19999 (by decide), Option.bind_some]
      simp only
      have bl := beginV_sh (L := L) (v := v) (V := V) (n := 0)
      have hbs : ∀ dt k, 15000 ≤ k → ladderbackref23_Same.f k (beginV L 0 v V) B (nowF n dt) f (beginV L 0 v V) B (nowF n dt) f = some true := by
        intro dt k hk
        rw [same_is _ _ B B _ f _ f (by rw [bl.1]; exact v1) (fun l hl => by obtain ⟨l', h3, h4⟩ := bl.2 l hl; have := v3 l' h3; omega) v2 k (by omega), eqB_self]
      have last : ∀ x k, 15000 ≤ k → ladderbacklaw24_CycleBegins.j2 (k + 1) L x false c v b u V B n f V B n f = some true := by
        intro x k hk
        rw [ladderbacklaw24_CycleBegins.j2, if_neg (by decide), cbegin_is v V L B n f 0 hs, Option.bind_some, ref_begin v V L B n f 0 hs hL f1 k hk, Option.bind_some]
        simp only
        rw [hbs 0 k hk, Option.bind_some, if_pos rfl, same_is V V B B n f n f v1 (fun l hl => by have := v3 l hl; omega) v2 k (by omega), Option.bind_some, eqB_self, if_pos rfl, awake24, Option.bind_some]
      have main : ∀ m : Nat, ∀ x : Nat, x + m = 3 → ∀ k : Nat, 15010 + 2 * m ≤ k → ladderbacklaw24_CycleBegins.l0 k L (x : Int) c v b u V B n f V B n f = some true := by
        intro m
        induction m with
        | zero =>
          intro x hx k hk
          obtain ⟨k, rfl⟩ : ∃ m, k = m + 2 := ⟨k - 2, by omega⟩
          rw [ladderbacklaw24_CycleBegins.l0]
          split
          · rw [decide_eq_false (by omega)]; exact last _ k (by omega)
          · exact last _ k (by omega)
        | succ m ih =>
          intro x hx k hk
          obtain ⟨k, rfl⟩ : ∃ m, k = m + 2 := ⟨k - 2, by omega⟩
          rw [ladderbacklaw24_CycleBegins.l0]
          split
          · rename_i hxl
            rw [decide_eq_true (by omega), ladderbacklaw24_CycleBegins.j2, if_pos rfl, if_pos (by omega), if_pos hxl, cbegin_is v V L B n f _ hs, Option.bind_some, ref_begin v V L B n f _ hs hL f1 k (by omega), Option.bind_some]
            simp only
            rw [hbs _ k (by omega), Option.bind_some, if_pos rfl, wn x (by omega)]
            exact ih (x + 1) (by omega) k (by omega)
          · exact last _ k (by omega)
      exact main 3 0 rfl 19999 (by decide)
end Go.Proofs.Ytamajfcjcfkkjaa.RPure
end

section
/- cycle.Off, walked by hand: what the area holds, cleared. -/
namespace Go.Proofs.Ytamajfcjcfkkjaa.Given
open Go Go.RowKit Go.Proofs.Ytamajfcjcfkkjaa.PSt Go.Proofs.YtamajfcjcfkkjaaW.PrintWords Go.Proofs.YtamajfcjcfkkjaaW.PrintLast Go.Proofs.YtamajfcjcfkkjaaW.PrintMore
set_option linter.unusedVariables false
set_option linter.unusedSimpArgs false
theorem zero_int (w : World) : (zeroValue 3).run Try.prog w = .ok (.int .i64 0) w := by
  kernel_rfl
theorem clear_own (w w0 : World) (base : Nat) (v : Value) (n : Nat) (xs : List Value) (h : w.ownsRow base 3 1 v n xs) (hb : Below base w0 w) :
    ∃ w2, (∀ ty, (Builtin.clear_ #[32] ty #[v]).run Try.prog w = .ok (.tuple #[]) w2) ∧ w2.ownsRow base 3 1 v n (List.replicate n (.int .i64 0)) ∧ Below base w0 w2 := by
  have hu := Try.underlying32
  obtain ⟨hl, h | ⟨g, cap, cur, rfl, hg, hh, hn, hc, hs, ht⟩⟩ := h
  · obtain ⟨rfl, rfl⟩ := h
    exact ⟨w, fun ty => by simp [Builtin.clear_, run_underlying hu], ⟨rfl, .inl ⟨rfl, rfl⟩⟩, hb⟩
  · rcases Nat.eq_zero_or_pos n with rfl | hpos
    · exact ⟨w, fun ty => by simp [Builtin.clear_, run_underlying hu], ⟨rfl, .inr ⟨g, cap, cur, rfl, hg, hh, hn, hc, hs, by simp⟩⟩, hb⟩
    · obtain ⟨m, rfl⟩ : ∃ m, n = m + 1 := ⟨n - 1, by omega⟩
      have hst := run_storeCells_at Try.prog g 0 3 (List.replicate (m + 1) (.int .i64 0)) 0 cur w hh (by rw [List.length_replicate]; omega) (fun v hv => by rw [List.eq_of_mem_replicate hv]; rfl)
      have hzc : (Builtin.zeroCells (#[.int .i64 0] : Array Value) (m + 1)).toList = List.replicate (m + 1) (.int .i64 0) := by
        simp only [Builtin.zeroCells]
        apply List.ext_getElem
        · simp
        · intro i h1 h2
          simp [Nat.mod_one]
      refine ⟨_, fun ty => by simp [Builtin.clear_, run_underlying hu, zero_int, Value.cells, hzc, hst]; rfl, ⟨by simp, .inr ⟨g, cap, _, rfl, hg, setRow_heap w g cur _ 3 _ hh, hn, hc, ?_, ?_⟩⟩, below_setRow hb hg _⟩
      · simp only [List.size_toArray, List.length_append, List.length_take, List.length_replicate, List.length_drop, Array.length_toList]; omega
      · simp
theorem own_down {w : World} {b b2 n : Nat} {v : Value} {xs : List Value} (hb : b ≤ b2) (h : w.ownsRow b2 3 1 v n xs) : w.ownsRow b 3 1 v n xs := by
  obtain ⟨hl, h | ⟨g, cap, cur, rfl, hg, hr⟩⟩ := h
  · exact ⟨hl, .inl h⟩
  · exact ⟨hl, .inr ⟨g, cap, cur, rfl, Nat.le_trans hb hg, hr⟩⟩
set_option maxHeartbeats 2000000 in
set_option maxRecDepth 100000 in
theorem off_w (A0 A1 A2 : Option Addr) (c0 c1 c2 : Nat) (v : List S60) (V : List (List Int)) (B : List S69) (n f : Int) (r : List Int) (k : Nat) (w : World)
    (g0 : Kd.C k60 w A0 v.length v) (l0 : v.length ≤ c0) (g1 : Kd.C (Kd.slice 3 (Kd.int .i64)) w A1 V.length V) (l1 : V.length ≤ c1) (g2 : Kd.C k69 w A2 B.length B) (l2 : B.length ≤ c2) (h : state_Area.f k v V B n f 2 = some r) :
    Calls Try.prog 18 #[.slice A0 v.length c0, .agg #[.slice A1 V.length c1, .slice A2 B.length c2, .int .i64 n, .int .i64 f]] w fun e w' => ∃ v0_ : Value, e = .returned v0_ ∧ Kd.R (Kd.int .i64) 3 w' w.heap.size (fun _ => True) v0_ (List.replicate r.length 0) ∧ Below w.heap.size w w' := by
  have CL := Aside0.mk (fun W (hb : Below w.heap.size w W) => state_Area.calls k A0 c0 v A1 c1 V A2 c2 B n f 2 r W (Kd.C_below g0 hb) l0 (Kd.C_below g1 hb) l1 (Kd.C_below g2 hb) l2 h)
  have hi4 : (Try.prog.info? 31).map (·.size) = some 4 := by kernel_rfl
  clear g0 l0 g1 l1 g2 l2 h
  go_enter Try.func18, Try.ntmps18
  go_wp2_with fail
  obtain ⟨W0, hW0⟩ : ∃ W0, W0 = w.alloc (.cells #[.slice A1 V.length c1, .slice A2 B.length c2, .int .i64 n, .int .i64 f] 31) := ⟨_, rfl⟩
  rw [← hW0]
  have hB0 : Below w.heap.size w W0 := by rw [hW0]; exact (Below.refl _ _).alloc (Nat.le_refl _) _
  clear hW0
  have HB0 := Aside0.mk hB0
  refine (CL.out W0 hB0).mono ?_
  rintro e w1 ⟨v0, rfl, HR, HB⟩
  clear hB0
  have ho := own_down HB0.out.size (Kd.own_of_R HR)
  obtain ⟨w2, hcl, ho2, hb2⟩ := clear_own w1 w _ _ _ _ ho (HB0.out.trans (HB.mono HB0.out.size))
  clear ho HR HB CL HB0
  have hu9 := Try.underlying32
  go_wp2
  go_ret
  exact ⟨_, rfl, Kd.R_of_own (by simpa [encs] using ho2) (fun _ _ => trivial), hb2⟩
def cycle_Off.f (v : List S60) (V : List (List Int)) (B : List S69) (n f : Int) : Option (List Int) := (state_Area.f 2000 v V B n f 2).map fun r => List.replicate r.length 0
theorem cycle_Off.calls (A0 : Option Addr) (c0 : Nat) (l0 : List S60) (A1_0 : Option Addr) (c1_0 : Nat) (l1_0 : List (List Int)) (A1_1 : Option Addr) (c1_1 : Nat) (l1_1 : List S69) (a1_2 a1_3 : Int) (r : List Int) (w : World)
    (hr0 : Kd.C k60 w A0 l0.length l0) (hc0 : l0.length ≤ c0) (hr1_0 : Kd.C (Kd.slice 3 (Kd.int .i64)) w A1_0 l1_0.length l1_0) (hc1_0 : l1_0.length ≤ c1_0) (hr1_1 : Kd.C k69 w A1_1 l1_1.length l1_1) (hc1_1 : l1_1.length ≤ c1_1) (h : cycle_Off.f l0 l1_0 l1_1 a1_2 a1_3 = some r) :
    Calls Try.prog 18 #[.slice A0 l0.length c0, .agg #[.slice A1_0 l1_0.length c1_0, .slice A1_1 l1_1.length c1_1, .int .i64 a1_2, .int .i64 a1_3]] w fun e w' => ∃ v0_ : Value, e = .returned (v0_) ∧ Kd.R (Kd.int .i64) 3 w' w.heap.size (fun _ => True) v0_ r ∧ Below w.heap.size w w' := by
  unfold cycle_Off.f at h
  obtain ⟨q, hq, rfl⟩ := Option.map_eq_some_iff.1 h
  exact off_w A0 A1_0 A1_1 c0 c1_0 c1_1 l0 l1_0 l1_1 a1_2 a1_3 q 2000 w hr0 hc0 hr1_0 hc1_0 hr1_1 hc1_1 hq
end Go.Proofs.Ytamajfcjcfkkjaa.Given
end

section
/- Printed by a program of this session (wip/pg.py, over the print of the kit): functions, their Lean twins, and the proofs that the calls come to them; each under the conditions that it names. -/
namespace Go.Proofs.Ytamajfcjcfkkjaa.PSt
open Go.Proofs.Ytamajfcjcfkkjaa.Given
open Go.RowKit Go.Proofs.YtamajfcjcfkkjaaW.PrintWords Go.Proofs.YtamajfcjcfkkjaaW.PrintLast Go.Proofs.YtamajfcjcfkkjaaW.PrintMore
attribute [local go_sem] max2_int min2_int max_two min_two max_three min_three max_four min_four   -- for this text's walks alone
set_option linter.unusedVariables false
set_option linter.unusedSimpArgs false

/-! ### cycle_End: function 15 -/
def cycle_End.f (k : Nat) (l0 : List (S60)) (l1_0 : List (List Int)) (l1_1 : List (S69)) (a1_2 : Int) (a1_3 : Int) (l2_0 : List (List Int)) (l2_1 : List (S69)) (a2_2 : Int) (a2_3 : Int) (a3 : Int) : Option ((List (List Int)) × (List (S69)) × Int × Int × List Int) := if a3 = 0 then ((state_Clone.f k l2_0 l2_1 a2_2 a2_3).bind fun bt474 => ((state_Area.f k l0 l2_0 l2_1 a2_2 a2_3 2).bind fun t482 => (some (bt474.1, bt474.2.1, bt474.2.2.1, bt474.2.2.2, t482)))) else ((state_Clone.f k l1_0 l1_1 a1_2 a1_3).bind fun bt485 => ((cycle_Off.f l0 l1_0 l1_1 a1_2 a1_3).bind fun t494 => (some (bt485.1, bt485.2.1, bt485.2.2.1, a3, t494))))
set_option maxHeartbeats 8000000 in
set_option maxRecDepth 100000 in
theorem cycle_End.calls (k : Nat) (A0 : Option Addr) (c0 : Nat) (l0 : List (S60)) (A1_0 : Option Addr) (c1_0 : Nat) (l1_0 : List (List Int)) (A1_1 : Option Addr) (c1_1 : Nat) (l1_1 : List (S69)) (a1_2 : Int) (a1_3 : Int) (A2_0 : Option Addr) (c2_0 : Nat) (l2_0 : List (List Int)) (A2_1 : Option Addr) (c2_1 : Nat) (l2_1 : List (S69)) (a2_2 : Int) (a2_3 : Int) (a3 : Int) (r1 : List (List Int)) (r2 : List (S69)) (r3 : Int) (r4 : Int) (r5 : List Int) (w : World) (hr0 : Kd.C k60 w A0 l0.length l0) (hc0 : l0.length ≤ c0) (hr1_0 : Kd.C (Kd.slice 3 (Kd.int .i64)) w A1_0 l1_0.length l1_0) (hc1_0 : l1_0.length ≤ c1_0) (hr1_1 : Kd.C k69 w A1_1 l1_1.length l1_1) (hc1_1 : l1_1.length ≤ c1_1) (hr2_0 : Kd.C (Kd.slice 3 (Kd.int .i64)) w A2_0 l2_0.length l2_0) (hc2_0 : l2_0.length ≤ c2_0) (hr2_1 : Kd.C k69 w A2_1 l2_1.length l2_1) (hc2_1 : l2_1.length ≤ c2_1) (h : cycle_End.f k l0 l1_0 l1_1 a1_2 a1_3 l2_0 l2_1 a2_2 a2_3 a3 = some (r1, r2, r3, r4, r5)) :
    Calls Try.prog 15 #[.slice A0 l0.length c0, .agg #[.slice A1_0 l1_0.length c1_0, .slice A1_1 l1_1.length c1_1, .int .i64 a1_2, .int .i64 a1_3], .agg #[.slice A2_0 l2_0.length c2_0, .slice A2_1 l2_1.length c2_1, .int .i64 a2_2, .int .i64 a2_3], .int .i64 a3] w fun e w' => ∃ v0_ v1_ v4_ : Value, e = .returned (.tuple #[.agg #[v0_, v1_, .int .i64 r3, .int .i64 r4], v4_]) ∧ Kd.S (Kd.slice 3 (Kd.int .i64)) 32 w' w.heap.size (fun k_ => some k_ ≠ (v4_ : Value).ownBlock) v0_ r1 ∧ Kd.R k69 69 w' w.heap.size (fun _ => True) v1_ r2 ∧ Kd.R (Kd.int .i64) 3 w' w.heap.size (fun _ => True) v4_ r5 ∧ Below w.heap.size w w' := by
  have hu31 := Try.underlying31
  have HR0 := Aside0.mk hr0
  have HC0 := Aside0.mk hc0
  clear hr0 hc0
  have HR1_0 := Aside0.mk hr1_0
  have HC1_0 := Aside0.mk hc1_0
  clear hr1_0 hc1_0
  have HR1_1 := Aside0.mk hr1_1
  have HC1_1 := Aside0.mk hc1_1
  clear hr1_1 hc1_1
  have HR2_0 := Aside0.mk hr2_0
  have HC2_0 := Aside0.mk hc2_0
  clear hr2_0 hc2_0
  have HR2_1 := Aside0.mk hr2_1
  have HC2_1 := Aside0.mk hc2_1
  clear hr2_1 hc2_1
  have HB := Aside0.mk (Below.refl w.heap.size w)
  have H : (if a3 = 0 then ((state_Clone.f k l2_0 l2_1 a2_2 a2_3).bind fun bt474 => ((state_Area.f k l0 l2_0 l2_1 a2_2 a2_3 2).bind fun t482 => (some (bt474.1, bt474.2.1, bt474.2.2.1, bt474.2.2.2, t482)))) else ((state_Clone.f k l1_0 l1_1 a1_2 a1_3).bind fun bt485 => ((cycle_Off.f l0 l1_0 l1_1 a1_2 a1_3).bind fun t494 => (some (bt485.1, bt485.2.1, bt485.2.2.1, a3, t494))))) = some (r1, r2, r3, r4, r5) := h
  clear h
  by_cases c5 : a3 = 0
  · rw [if_pos c5] at H
    have c5b0 : (a3 == 0) = true := beq_iff_eq.mpr c5
    have c5b1 : (a3 != 0) = false := bne_eq_false_iff_eq.mpr c5
    clear c5
    replace H := Option.bind_eq_some_iff.mp H
    obtain ⟨⟨t474, t477, t480, t481⟩, A60, H⟩ := H
    replace H : ((state_Area.f k l0 l2_0 l2_1 a2_2 a2_3 2).bind fun t482 => (some (t474, t477, t480, t481, t482))) = some (r1, r2, r3, r4, r5) := H
    have A6 := Aside0.mk A60
    clear A60
    replace H := Option.bind_eq_some_iff.mp H
    obtain ⟨t482, A70, H⟩ := H
    replace H : (some (t474, t477, t480, t481, t482)) = some (r1, r2, r3, r4, r5) := H
    have A7 := Aside0.mk A70
    clear A70
    simp only [Option.some.injEq, Prod.mk.injEq] at H
    obtain ⟨rfl, rfl, rfl, rfl, rfl⟩ := H
    go_enter Try.func15, Try.ntmps15
    try go_wp2_with (first | ((with_reducible refine gate_dst (N := 5) rfl ?_); refine box_event ?hg (N := 5) ?hd (cs := #[.slice A1_0 l1_0.length c1_0, .slice A1_1 l1_1.length c1_1, .int .i64 a1_2, .int .i64 a1_3]) (t := 31) ?hr ?_; (case hd => rfl); (case hg => rfl); (case hr => first | (go_simp; done) | (go_simp; rfl)); intro gb471 hg w8 hbox hb; have n0_ := Aside0.mk (below_step (by repeat (first | (with_reducible first | exact HB.out | apply below_alloc | apply pw_below_drewN | apply below_drew1) | exact HB.out)) hb); have n1_ := Aside0.mk (hbox); have n2_ := Aside0.mk ((by rw [hg]; exact (below_size (by repeat (first | (with_reducible first | exact HB.out | apply below_alloc | apply pw_below_drewN | apply below_drew1) | exact HB.out))) : w.heap.size ≤ gb471)); have n3_ := Aside0.mk ((by rw [hg]; exact (below_size (by repeat (first | (with_reducible first | exact HB.out | apply below_alloc | apply pw_below_drewN | apply below_drew1) | exact HB.out))) : w.heap.size ≤ gb471)); clear HB; have HB := n0_; have BK471 := n1_; have GW471 := n2_; have GE471 := n3_; clear n0_ n1_ n2_ n3_; clear hb hbox hg) | ((with_reducible refine gate_dst (N := 6) rfl ?_); refine box_event ?hg (N := 6) ?hd (cs := #[.slice A2_0 l2_0.length c2_0, .slice A2_1 l2_1.length c2_1, .int .i64 a2_2, .int .i64 a2_3]) (t := 31) ?hr ?_; (case hd => rfl); (case hg => rfl); (case hr => first | (go_simp; done) | (go_simp; rfl)); intro gb472 hg w9 hbox hb; have n0_ := Aside0.mk (blk_below (g := gb471) (o := .cells #[.slice A1_0 l1_0.length c1_0, .slice A1_1 l1_1.length c1_1, .int .i64 a1_2, .int .i64 a1_3] 31 (0, 0)) (by (with_reducible repeat (first | refine blk_drewN ?_ _ | refine blk_drew ?_ | refine blk_alloc ?_ _)); exact BK471.out) hb); have n1_ := Aside0.mk (below_step (by repeat (first | (with_reducible first | exact HB.out | apply below_alloc | apply pw_below_drewN | apply below_drew1 | refine below_set ?_ GE471.out) | exact HB.out)) hb); have n2_ := Aside0.mk (hbox); have n3_ := Aside0.mk ((by rw [hg]; exact (below_size (by repeat (first | (with_reducible first | exact HB.out | apply below_alloc | apply pw_below_drewN | apply below_drew1 | refine below_set ?_ GE471.out) | exact HB.out))) : w.heap.size ≤ gb472)); have n4_ := Aside0.mk ((by rw [hg]; exact (below_size (by repeat (first | (with_reducible first | exact HB.out | apply below_alloc | apply pw_below_drewN | apply below_drew1 | refine below_set ?_ GE471.out) | exact HB.out))) : w.heap.size ≤ gb472)); have n5_ := Aside0.mk ((by rw [hg]; exact Nat.ne_of_lt (blk_lt (g := gb471) (o := .cells #[.slice A1_0 l1_0.length c1_0, .slice A1_1 l1_1.length c1_1, .int .i64 a1_2, .int .i64 a1_3] 31 (0, 0)) (by (with_reducible repeat (first | refine blk_drewN ?_ _ | refine blk_drew ?_ | refine blk_alloc ?_ _)); exact BK471.out)) : gb471 ≠ gb472)); have n6_ := Aside0.mk ((by rw [hg]; exact Nat.ne_of_gt (blk_lt (g := gb471) (o := .cells #[.slice A1_0 l1_0.length c1_0, .slice A1_1 l1_1.length c1_1, .int .i64 a1_2, .int .i64 a1_3] 31 (0, 0)) (by (with_reducible repeat (first | refine blk_drewN ?_ _ | refine blk_drew ?_ | refine blk_alloc ?_ _)); exact BK471.out)) : gb472 ≠ gb471)); clear BK471; clear HB; have BK471 := n0_; have HB := n1_; have BK472 := n2_; have GW472 := n3_; have GE472 := n4_; have NB471_472 := n5_; have NB472_471 := n6_; clear n0_ n1_ n2_ n3_ n4_ n5_ n6_; clear hb hbox hg) | ((with_reducible refine gate_dst (N := 8) rfl ?_); refine box_event ?hg (N := 8) ?hd (cs := #[.slice none 0 0, .slice none 0 0, .int .i64 0, .int .i64 0]) (t := 31) ?hr ?_; (case hd => rfl); (case hg => rfl); (case hr => first | (go_simp; done) | (go_simp; rfl)); intro gb473 hg w10 hbox hb; have n0_ := Aside0.mk (blk_below (g := gb471) (o := .cells #[.slice A1_0 l1_0.length c1_0, .slice A1_1 l1_1.length c1_1, .int .i64 a1_2, .int .i64 a1_3] 31 (0, 0)) (by (with_reducible repeat (first | refine blk_drewN ?_ _ | refine blk_drew ?_ | refine blk_alloc ?_ _)); exact BK471.out) hb); have n1_ := Aside0.mk (blk_below (g := gb472) (o := .cells #[.slice A2_0 l2_0.length c2_0, .slice A2_1 l2_1.length c2_1, .int .i64 a2_2, .int .i64 a2_3] 31 (0, 0)) (by (with_reducible repeat (first | refine blk_drewN ?_ _ | refine blk_drew ?_ | refine blk_alloc ?_ _)); exact BK472.out) hb); have n2_ := Aside0.mk (below_step (by repeat (first | (with_reducible first | exact HB.out | apply below_alloc | apply pw_below_drewN | apply below_drew1 | refine below_set ?_ GE471.out | refine below_set ?_ GE472.out) | exact HB.out)) hb); have n3_ := Aside0.mk (hbox); have n4_ := Aside0.mk ((by rw [hg]; exact (below_size (by repeat (first | (with_reducible first | exact HB.out | apply below_alloc | apply pw_below_drewN | apply below_drew1 | refine below_set ?_ GE471.out | refine below_set ?_ GE472.out) | exact HB.out))) : w.heap.size ≤ gb473)); have n5_ := Aside0.mk ((by rw [hg]; exact (below_size (by repeat (first | (with_reducible first | exact HB.out | apply below_alloc | apply pw_below_drewN | apply below_drew1 | refine below_set ?_ GE471.out | refine below_set ?_ GE472.out) | exact HB.out))) : w.heap.size ≤ gb473)); have n6_ := Aside0.mk ((by rw [hg]; exact Nat.ne_of_lt (blk_lt (g := gb471) (o := .cells #[.slice A1_0 l1_0.length c1_0, .slice A1_1 l1_1.length c1_1, .int .i64 a1_2, .int .i64 a1_3] 31 (0, 0)) (by (with_reducible repeat (first | refine blk_drewN ?_ _ | refine blk_drew ?_ | refine blk_alloc ?_ _)); exact BK471.out)) : gb471 ≠ gb473)); have n7_ := Aside0.mk ((by rw [hg]; exact Nat.ne_of_gt (blk_lt (g := gb471) (o := .cells #[.slice A1_0 l1_0.length c1_0, .slice A1_1 l1_1.length c1_1, .int .i64 a1_2, .int .i64 a1_3] 31 (0, 0)) (by (with_reducible repeat (first | refine blk_drewN ?_ _ | refine blk_drew ?_ | refine blk_alloc ?_ _)); exact BK471.out)) : gb473 ≠ gb471)); have n8_ := Aside0.mk ((by rw [hg]; exact Nat.ne_of_lt (blk_lt (g := gb472) (o := .cells #[.slice A2_0 l2_0.length c2_0, .slice A2_1 l2_1.length c2_1, .int .i64 a2_2, .int .i64 a2_3] 31 (0, 0)) (by (with_reducible repeat (first | refine blk_drewN ?_ _ | refine blk_drew ?_ | refine blk_alloc ?_ _)); exact BK472.out)) : gb472 ≠ gb473)); have n9_ := Aside0.mk ((by rw [hg]; exact Nat.ne_of_gt (blk_lt (g := gb472) (o := .cells #[.slice A2_0 l2_0.length c2_0, .slice A2_1 l2_1.length c2_1, .int .i64 a2_2, .int .i64 a2_3] 31 (0, 0)) (by (with_reducible repeat (first | refine blk_drewN ?_ _ | refine blk_drew ?_ | refine blk_alloc ?_ _)); exact BK472.out)) : gb473 ≠ gb472)); clear BK471; clear BK472; clear HB; have BK471 := n0_; have BK472 := n1_; have HB := n2_; have BK473 := n3_; have GW473 := n4_; have GE473 := n5_; have NB471_473 := n6_; have NB473_471 := n7_; have NB472_473 := n8_; have NB473_472 := n9_; clear n0_ n1_ n2_ n3_ n4_ n5_ n6_ n7_ n8_ n9_; clear hb hbox hg))
    have n0_ := Aside0.mk (blk_drew BK471.out)
    have n1_ := Aside0.mk (blk_drew BK472.out)
    have n2_ := Aside0.mk (blk_drew BK473.out)
    have n3_ := Aside0.mk (below_drew1 HB.out)
    clear BK471
    clear BK472
    clear BK473
    clear HB
    have BK471 := n0_
    have BK472 := n1_
    have BK473 := n2_
    have HB := n3_
    clear n0_ n1_ n2_ n3_
    refine start_ (n := 7) (S := fun w' => w'.cell? ⟨gb472, 0, none⟩ = some (.slice A2_0 l2_0.length c2_0) ∧ w'.cell? ⟨gb472, 1, none⟩ = some (.slice A2_1 l2_1.length c2_1) ∧ w'.cell? ⟨gb472, 2, none⟩ = some (.int .i64 a2_2) ∧ w'.cell? ⟨gb472, 3, none⟩ = some (.int .i64 a2_3)) (ds := []) #[false, false, false, false, false, false, false] (by kernel_rfl) rfl rfl ⟨(blk_cell BK472.out 0).trans rfl, (blk_cell BK472.out 1).trans rfl, (blk_cell BK472.out 2).trans rfl, (blk_cell BK472.out 3).trans rfl⟩ (fun hHeld => ?_)
    generalize w10.drew = w11 at BK471 BK472 BK473 HB hHeld ⊢
    refine pure_ (i := 2) (N := some 15) (v := ?_) (a' := ?_) #[false, false, true, false, false, false, false] rfl rfl (by kernel_rfl) (fun _ _ _ h => h) (Or.inl ⟨by rfl, ?_⟩) ?_ ?_
    rotate_left
    · intro w'
      go_simp
      with_reducible rfl
    rotate_left
    · simp only [Act.put, List.setIfInBounds_toArray, List.set_cons_zero, List.set_cons_succ, i64_w, i32_w]
      rfl
    refine take_ (i := 0) (N := some 13) (v := ?_) (a' := ?_) #[true, false, true, false, false, false, false] rfl rfl (by kernel_rfl) (fun _ _ _ h => h) (Or.inl ⟨by rfl, ?_⟩) hHeld ?_ ?_
    rotate_left
    · rintro w' ⟨s0, s1, s2, s3⟩
      go_simp
      with_reducible rfl
    rotate_left
    · simp only [Act.put, List.setIfInBounds_toArray, List.set_cons_zero, List.set_cons_succ, i64_w, i32_w]
      rfl
    refine take_ (i := 3) (N := some 16) (v := ?_) (a' := ?_) #[true, false, true, true, false, false, false] rfl rfl (by kernel_rfl) (fun _ _ _ h => h) (Or.inl ⟨by rfl, ?_⟩) hHeld ?_ ?_
    rotate_left
    · rintro w' ⟨s0, s1, s2, s3⟩
      go_simp
      with_reducible rfl
    rotate_left
    · simp only [Act.put, List.setIfInBounds_toArray, List.set_cons_zero, List.set_cons_succ, i64_w, i32_w]
      rfl
    refine one_ (i := 1) (N := some 14) #[true, true, true, true, false, false, false] rfl rfl (by kernel_rfl) (by decide) (fun K hK => ?_)
    refine goes_ Try.func31 (by kernel_rfl) rfl #[.agg #[.slice A2_0 l2_0.length c2_0, .slice A2_1 l2_1.length c2_1, .int .i64 a2_2, .int .i64 a2_3]] (by rfl) rfl rfl (by (try simp only [List.map_toArray, List.map_cons, List.map_nil]); first | done | rfl | (simp only [List.length_drop, List.length_take]; rfl)) ?_
    with_reducible refine (state_Clone.calls k _ _ l2_0 _ _ l2_1 a2_2 a2_3 t474 t477 t480 t481 _ ?side1 ?side2 ?side3 ?side4 A6.out).mono ?_
    (case side1 => repeat (first | exact (Kd.C_below HR2_0.out HB.out) | (with_reducible refine Kd.C_alloc ?_ _) | (with_reducible refine Kd.C_drewN ?_ _) | (with_reducible refine Kd.C_drew ?_)))
    (case side2 => exact HC2_0.out)
    (case side3 => repeat (first | exact (Kd.C_below HR2_1.out HB.out) | (with_reducible refine Kd.C_alloc ?_ _) | (with_reducible refine Kd.C_drewN ?_ _) | (with_reducible refine Kd.C_drew ?_)))
    (case side4 => exact HC2_1.out)
    rintro e w12 ⟨v475, v478, rfl, ho0, ho1, hb⟩
    refine ⟨_, rfl, ?_⟩
    have n0_ := Aside0.mk (Kd.S_lower ho0 (below_size (by repeat (first | (with_reducible first | exact HB.out | apply below_alloc | apply pw_below_drewN | apply below_drew1 | refine below_set ?_ GE471.out | refine below_set ?_ GE472.out | refine below_set ?_ GE473.out) | exact HB.out))))
    have n1_ := Aside0.mk (Kd.R_lower ho1 (below_size (by repeat (first | (with_reducible first | exact HB.out | apply below_alloc | apply pw_below_drewN | apply below_drew1 | refine below_set ?_ GE471.out | refine below_set ?_ GE472.out | refine below_set ?_ GE473.out) | exact HB.out))))
    have n2_ := Aside0.mk (blk_below (g := gb471) (o := .cells #[.slice A1_0 l1_0.length c1_0, .slice A1_1 l1_1.length c1_1, .int .i64 a1_2, .int .i64 a1_3] 31 (0, 0)) (by (with_reducible repeat (first | refine blk_drewN ?_ _ | refine blk_drew ?_ | refine blk_alloc ?_ _)); exact BK471.out) hb)
    have n3_ := Aside0.mk (blk_below (g := gb472) (o := .cells #[.slice A2_0 l2_0.length c2_0, .slice A2_1 l2_1.length c2_1, .int .i64 a2_2, .int .i64 a2_3] 31 (0, 0)) (by (with_reducible repeat (first | refine blk_drewN ?_ _ | refine blk_drew ?_ | refine blk_alloc ?_ _)); exact BK472.out) hb)
    have n4_ := Aside0.mk (blk_below (g := gb473) (o := .cells #[.slice none 0 0, .slice none 0 0, .int .i64 0, .int .i64 0] 31 (0, 0)) (by (with_reducible repeat (first | refine blk_drewN ?_ _ | refine blk_drew ?_ | refine blk_alloc ?_ _)); exact BK473.out) hb)
    have n5_ := Aside0.mk (below_step (by repeat (first | (with_reducible first | exact HB.out | apply below_alloc | apply pw_below_drewN | apply below_drew1 | refine below_set ?_ GE471.out | refine below_set ?_ GE472.out | refine below_set ?_ GE473.out) | exact HB.out)) hb)
    clear BK471
    clear BK472
    clear BK473
    clear HB
    have HO476 := n0_
    have HO479 := n1_
    have BK471 := n2_
    have BK472 := n3_
    have BK473 := n4_
    have HB := n5_
    clear n0_ n1_ n2_ n3_ n4_ n5_
    (try clear hb)
    (try clear hb2)
    (try clear hk)
    (try clear hi)
    (try clear ho0)
    (try clear ho1)
    refine hK.out _ _ ⟨(blk_cell BK472.out 0).trans rfl, (blk_cell BK472.out 1).trans rfl, (blk_cell BK472.out 2).trans rfl, (blk_cell BK472.out 3).trans rfl⟩ (fun hHeld => ?_)
    clear hK K
    refine norm_ (a' := ?_) ?_ ?_
    rotate_left
    · show Act.put _ (some 14) _ = _
      simp only [Act.put, List.setIfInBounds_toArray, List.set_cons_zero, List.set_cons_succ, i64_w, i32_w]
      rfl
    refine one_ (i := 4) (N := some 17) #[true, true, true, true, true, false, false] rfl rfl (by kernel_rfl) (by decide) (fun K hK => ?_)
    refine goes_ Try.func28 (by kernel_rfl) rfl #[.slice A0 l0.length c0, .agg #[.slice A2_0 l2_0.length c2_0, .slice A2_1 l2_1.length c2_1, .int .i64 a2_2, .int .i64 a2_3], .int .i64 2] (by rfl) rfl rfl (by (try simp only [List.map_toArray, List.map_cons, List.map_nil]); first | done | rfl | (simp only [List.length_drop, List.length_take]; rfl)) ?_
    with_reducible refine (state_Area.calls k _ _ l0 _ _ l2_0 _ _ l2_1 a2_2 a2_3 2 t482 _ ?side1 ?side2 ?side3 ?side4 ?side5 ?side6 A7.out).mono ?_
    (case side1 => repeat (first | exact (Kd.C_below HR0.out HB.out) | (with_reducible refine Kd.C_alloc ?_ _) | (with_reducible refine Kd.C_drewN ?_ _) | (with_reducible refine Kd.C_drew ?_)))
    (case side2 => exact HC0.out)
    (case side3 => repeat (first | exact (Kd.C_below HR2_0.out HB.out) | (with_reducible refine Kd.C_alloc ?_ _) | (with_reducible refine Kd.C_drewN ?_ _) | (with_reducible refine Kd.C_drew ?_)))
    (case side4 => exact HC2_0.out)
    (case side5 => repeat (first | exact (Kd.C_below HR2_1.out HB.out) | (with_reducible refine Kd.C_alloc ?_ _) | (with_reducible refine Kd.C_drewN ?_ _) | (with_reducible refine Kd.C_drew ?_)))
    (case side6 => exact HC2_1.out)
    rintro e w13 ⟨v483, rfl, ho0, hb⟩
    refine ⟨_, rfl, ?_⟩
    have n0_ := Aside0.mk (Kd.S_elder' (by (with_reducible repeat (first | apply Kd.S_alloc | apply Kd.S_drewN | apply Kd.S_drew)); exact HO476.out) (Kd.R_base ho0) hb)
    have n1_ := Aside0.mk (Kd.R_below (by (with_reducible repeat (first | apply Kd.R_alloc | apply Kd.R_drewN | apply Kd.R_drew)); exact HO479.out) hb)
    have n2_ := Aside0.mk (Kd.R_lower ho0 (below_size (by repeat (first | (with_reducible first | exact HB.out | apply below_alloc | apply pw_below_drewN | apply below_drew1 | refine below_set ?_ GE471.out | refine below_set ?_ GE472.out | refine below_set ?_ GE473.out) | exact HB.out))))
    have n3_ := Aside0.mk (blk_below (g := gb471) (o := .cells #[.slice A1_0 l1_0.length c1_0, .slice A1_1 l1_1.length c1_1, .int .i64 a1_2, .int .i64 a1_3] 31 (0, 0)) (by (with_reducible repeat (first | refine blk_drewN ?_ _ | refine blk_drew ?_ | refine blk_alloc ?_ _)); exact BK471.out) hb)
    have n4_ := Aside0.mk (blk_below (g := gb472) (o := .cells #[.slice A2_0 l2_0.length c2_0, .slice A2_1 l2_1.length c2_1, .int .i64 a2_2, .int .i64 a2_3] 31 (0, 0)) (by (with_reducible repeat (first | refine blk_drewN ?_ _ | refine blk_drew ?_ | refine blk_alloc ?_ _)); exact BK472.out) hb)
    have n5_ := Aside0.mk (blk_below (g := gb473) (o := .cells #[.slice none 0 0, .slice none 0 0, .int .i64 0, .int .i64 0] 31 (0, 0)) (by (with_reducible repeat (first | refine blk_drewN ?_ _ | refine blk_drew ?_ | refine blk_alloc ?_ _)); exact BK473.out) hb)
    have n6_ := Aside0.mk (below_step (by repeat (first | (with_reducible first | exact HB.out | apply below_alloc | apply pw_below_drewN | apply below_drew1 | refine below_set ?_ GE471.out | refine below_set ?_ GE472.out | refine below_set ?_ GE473.out) | exact HB.out)) hb)
    clear HO476
    clear HO479
    clear BK471
    clear BK472
    clear BK473
    clear HB
    have HO476 := n0_
    have HO479 := n1_
    have HO484 := n2_
    have BK471 := n3_
    have BK472 := n4_
    have BK473 := n5_
    have HB := n6_
    clear n0_ n1_ n2_ n3_ n4_ n5_ n6_
    (try clear hb)
    (try clear hb2)
    (try clear hk)
    (try clear hi)
    (try clear ho0)
    obtain ⟨Ao14, co14, eo14⟩ := Kd.S_slice HO476.out
    (first | subst eo14 | (injection eo14 with f1_ f2_ f3_; have f4_ := f1_.symm; have f5_ := f3_.symm; clear f1_ f2_ f3_; subst f4_; subst f5_))
    obtain ⟨Ao16, co16, eo16⟩ := Kd.R_slice HO479.out
    (first | subst eo16 | (injection eo16 with f1_ f2_ f3_; have f4_ := f1_.symm; have f5_ := f3_.symm; clear f1_ f2_ f3_; subst f4_; subst f5_))
    refine hK.out _ _ ⟨(blk_cell BK472.out 0).trans rfl, (blk_cell BK472.out 1).trans rfl, (blk_cell BK472.out 2).trans rfl, (blk_cell BK472.out 3).trans rfl⟩ (fun hHeld => ?_)
    clear hK K
    refine norm_ (a' := ?_) ?_ ?_
    rotate_left
    · show Act.put _ (some 17) _ = _
      simp only [Act.put, List.setIfInBounds_toArray, List.set_cons_zero, List.set_cons_succ, i64_w, i32_w]
      rfl
    refine one_ (i := 5) (N := none) #[true, true, true, true, true, true, false] rfl rfl (by kernel_rfl) (by decide) (fun K hK => ?_)
    have hs15 : w13.cell? ⟨gb473, 0, none⟩ = some (.slice none 0 0) := (blk_cell BK473.out 0).trans rfl
    have hfs15 := blk_frozen BK473.out 0
    have hns15_0 := NB471_473.out
    have hns15_1 := NB472_473.out
    have hms15_0 := NB473_471.out
    have hms15_1 := NB473_472.out
    have hs17 : w13.cell? ⟨gb473, 1, none⟩ = some (.slice none 0 0) := (blk_cell BK473.out 1).trans rfl
    have hfs17 := blk_frozen BK473.out 1
    have hns17_0 := NB471_473.out
    have hns17_1 := NB472_473.out
    have hms17_0 := NB473_471.out
    have hms17_1 := NB473_472.out
    have hs18 : w13.cell? ⟨gb473, 2, none⟩ = some (.int .i64 0) := (blk_cell BK473.out 2).trans rfl
    have hfs18 := blk_frozen BK473.out 2
    have hns18_0 := NB471_473.out
    have hns18_1 := NB472_473.out
    have hms18_0 := NB473_471.out
    have hms18_1 := NB473_472.out
    have hs19 : w13.cell? ⟨gb473, 3, none⟩ = some (.int .i64 0) := (blk_cell BK473.out 3).trans rfl
    have hfs19 := blk_frozen BK473.out 3
    have hns19_0 := NB471_473.out
    have hns19_1 := NB472_473.out
    have hms19_0 := NB473_471.out
    have hms19_1 := NB473_472.out
    refine skip_ (w1 := ?_) (by rfl) rfl ?_ ?_
    rotate_left
    · go_simp
      rfl
    refine hK.out _ _ ⟨((cell_far (p := ⟨gb473, _, none⟩) NB472_473.out _).trans (((cell_far (p := ⟨gb473, _, none⟩) NB472_473.out _).trans (((cell_far (p := ⟨gb473, _, none⟩) NB472_473.out _).trans (((cell_far (p := ⟨gb473, _, none⟩) NB472_473.out _).trans (hHeld.1)))))))), ((cell_far (p := ⟨gb473, _, none⟩) NB472_473.out _).trans (((cell_far (p := ⟨gb473, _, none⟩) NB472_473.out _).trans (((cell_far (p := ⟨gb473, _, none⟩) NB472_473.out _).trans (((cell_far (p := ⟨gb473, _, none⟩) NB472_473.out _).trans (hHeld.2.1)))))))), ((cell_far (p := ⟨gb473, _, none⟩) NB472_473.out _).trans (((cell_far (p := ⟨gb473, _, none⟩) NB472_473.out _).trans (((cell_far (p := ⟨gb473, _, none⟩) NB472_473.out _).trans (((cell_far (p := ⟨gb473, _, none⟩) NB472_473.out _).trans (hHeld.2.2.1)))))))), ((cell_far (p := ⟨gb473, _, none⟩) NB472_473.out _).trans (((cell_far (p := ⟨gb473, _, none⟩) NB472_473.out _).trans (((cell_far (p := ⟨gb473, _, none⟩) NB472_473.out _).trans (((cell_far (p := ⟨gb473, _, none⟩) NB472_473.out _).trans (hHeld.2.2.2))))))))⟩ (fun hHeld => ?_)
    clear hK K
    refine pure_ (i := 6) (N := some 9) (v := ?_) (a' := ?_) #[true, true, true, true, true, true, true] rfl rfl (by kernel_rfl) (fun _ _ _ h => h) (Or.inl ⟨by rfl, ?_⟩) ?_ ?_
    rotate_left
    · intro w'
      go_simp
      with_reducible rfl
    rotate_left
    · simp only [Act.put, List.setIfInBounds_toArray, List.set_cons_zero, List.set_cons_succ, i64_w, i32_w]
      rfl
    refine done_ (by kernel_rfl) ?_
    try go_wp2
    refine bodyPost_ret (results_ct rfl _ _ gb473 31 #[.slice Ao14 t474.length co14, .slice Ao16 t477.length co16, .int .i64 t480, .int .i64 t481] (0, 0) _ rfl (by (with_reducible repeat (first | refine blk_drewN ?_ _ | refine blk_drew ?_ | refine blk_alloc ?_ _)); refine blk_put (cs := #[.slice Ao14 t474.length co14, .slice Ao16 t477.length co16, .int .i64 t480, .int .i64 0]) ?_ 3 _ rfl; (with_reducible repeat (first | refine blk_drewN ?_ _ | refine blk_drew ?_ | refine blk_alloc ?_ _)); refine blk_put (cs := #[.slice Ao14 t474.length co14, .slice Ao16 t477.length co16, .int .i64 0, .int .i64 0]) ?_ 2 _ rfl; (with_reducible repeat (first | refine blk_drewN ?_ _ | refine blk_drew ?_ | refine blk_alloc ?_ _)); refine blk_put (cs := #[.slice Ao14 t474.length co14, .slice none 0 0, .int .i64 0, .int .i64 0]) ?_ 1 _ rfl; (with_reducible repeat (first | refine blk_drewN ?_ _ | refine blk_drew ?_ | refine blk_alloc ?_ _)); refine blk_put (cs := #[.slice none 0 0, .slice none 0 0, .int .i64 0, .int .i64 0]) ?_ 0 _ rfl; (with_reducible repeat (first | refine blk_drewN ?_ _ | refine blk_drew ?_ | refine blk_alloc ?_ _)); exact BK473.out) Try.underlying31 rfl (by kernel_rfl)) rfl ?_
    exact ⟨_, _, _, by first | rfl | (simp [errW_none, errW_some] <;> rfl) | (simp [*, errW_none, errW_some] <;> rfl), by (with_reducible repeat (first | apply Kd.S_alloc | apply Kd.S_drewN | apply Kd.S_drew)); exact Kd.S_mono (Kd.S_far (p := ⟨gb473, 3, none⟩) (Kd.S_far (p := ⟨gb473, 2, none⟩) (Kd.S_far (p := ⟨gb473, 1, none⟩) (Kd.S_far (p := ⟨gb473, 0, none⟩) (Kd.S_types HO476.out BK473.out (by decide)) (fun _ hk => hk.2) (.slice Ao14 t474.length co14)) (fun _ hk => hk.2) (.slice Ao16 t477.length co16)) (fun _ hk => hk.2) (.int .i64 t480)) (fun _ hk => hk.2) (.int .i64 t481)) (fun _ hk => hk.1.2), by (with_reducible repeat (first | apply Kd.R_alloc | apply Kd.R_drewN | apply Kd.R_drew)); exact Kd.R_mono (Kd.R_far (p := ⟨gb473, 3, none⟩) (Kd.R_far (p := ⟨gb473, 2, none⟩) (Kd.R_far (p := ⟨gb473, 1, none⟩) (Kd.R_far (p := ⟨gb473, 0, none⟩) (Kd.R_types HO479.out BK473.out (by decide)) (fun _ hk => hk.2) (.slice Ao14 t474.length co14)) (fun _ hk => hk.2) (.slice Ao16 t477.length co16)) (fun _ hk => hk.2) (.int .i64 t480)) (fun _ hk => hk.2) (.int .i64 t481)) (fun _ hk => trivial), by (with_reducible repeat (first | apply Kd.R_alloc | apply Kd.R_drewN | apply Kd.R_drew)); exact Kd.R_mono (Kd.R_far (p := ⟨gb473, 3, none⟩) (Kd.R_far (p := ⟨gb473, 2, none⟩) (Kd.R_far (p := ⟨gb473, 1, none⟩) (Kd.R_far (p := ⟨gb473, 0, none⟩) (Kd.R_types HO484.out BK473.out (by decide)) (fun _ hk => hk.2) (.slice Ao14 t474.length co14)) (fun _ hk => hk.2) (.slice Ao16 t477.length co16)) (fun _ hk => hk.2) (.int .i64 t480)) (fun _ hk => hk.2) (.int .i64 t481)) (fun _ hk => trivial), by repeat (first | (with_reducible first | exact HB.out | apply below_alloc | apply pw_below_drewN | apply below_drew1 | refine below_set ?_ GE471.out | refine below_set ?_ GE472.out | refine below_set ?_ GE473.out) | exact HB.out)⟩
  · rw [if_neg c5] at H
    have c5b0 : (a3 == 0) = false := beq_eq_false_iff_ne.mpr c5
    have c5b1 : (a3 != 0) = true := bne_iff_ne.mpr c5
    replace H := Option.bind_eq_some_iff.mp H
    obtain ⟨⟨t485, t488, t491, t492⟩, A200, H⟩ := H
    replace H : ((cycle_Off.f l0 l1_0 l1_1 a1_2 a1_3).bind fun t494 => (some (t485, t488, t491, a3, t494))) = some (r1, r2, r3, r4, r5) := H
    have A20 := Aside0.mk A200
    clear A200
    replace H := Option.bind_eq_some_iff.mp H
    obtain ⟨t494, A210, H⟩ := H
    replace H : (some (t485, t488, t491, a3, t494)) = some (r1, r2, r3, r4, r5) := H
    have A21 := Aside0.mk A210
    clear A210
    simp only [Option.some.injEq, Prod.mk.injEq] at H
    obtain ⟨rfl, rfl, rfl, rfl, rfl⟩ := H
    go_enter Try.func15, Try.ntmps15
    try go_wp2_with (first | ((with_reducible refine gate_dst (N := 5) rfl ?_); refine box_event ?hg (N := 5) ?hd (cs := #[.slice A1_0 l1_0.length c1_0, .slice A1_1 l1_1.length c1_1, .int .i64 a1_2, .int .i64 a1_3]) (t := 31) ?hr ?_; (case hd => rfl); (case hg => rfl); (case hr => first | (go_simp; done) | (go_simp; rfl)); intro gb471 hg w22 hbox hb; have n0_ := Aside0.mk (below_step (by repeat (first | (with_reducible first | exact HB.out | apply below_alloc | apply pw_below_drewN | apply below_drew1) | exact HB.out)) hb); have n1_ := Aside0.mk (hbox); have n2_ := Aside0.mk ((by rw [hg]; exact (below_size (by repeat (first | (with_reducible first | exact HB.out | apply below_alloc | apply pw_below_drewN | apply below_drew1) | exact HB.out))) : w.heap.size ≤ gb471)); have n3_ := Aside0.mk ((by rw [hg]; exact (below_size (by repeat (first | (with_reducible first | exact HB.out | apply below_alloc | apply pw_below_drewN | apply below_drew1) | exact HB.out))) : w.heap.size ≤ gb471)); clear HB; have HB := n0_; have BK471 := n1_; have GW471 := n2_; have GE471 := n3_; clear n0_ n1_ n2_ n3_; clear hb hbox hg) | ((with_reducible refine gate_dst (N := 6) rfl ?_); refine box_event ?hg (N := 6) ?hd (cs := #[.slice A2_0 l2_0.length c2_0, .slice A2_1 l2_1.length c2_1, .int .i64 a2_2, .int .i64 a2_3]) (t := 31) ?hr ?_; (case hd => rfl); (case hg => rfl); (case hr => first | (go_simp; done) | (go_simp; rfl)); intro gb472 hg w23 hbox hb; have n0_ := Aside0.mk (blk_below (g := gb471) (o := .cells #[.slice A1_0 l1_0.length c1_0, .slice A1_1 l1_1.length c1_1, .int .i64 a1_2, .int .i64 a1_3] 31 (0, 0)) (by (with_reducible repeat (first | refine blk_drewN ?_ _ | refine blk_drew ?_ | refine blk_alloc ?_ _)); exact BK471.out) hb); have n1_ := Aside0.mk (below_step (by repeat (first | (with_reducible first | exact HB.out | apply below_alloc | apply pw_below_drewN | apply below_drew1 | refine below_set ?_ GE471.out) | exact HB.out)) hb); have n2_ := Aside0.mk (hbox); have n3_ := Aside0.mk ((by rw [hg]; exact (below_size (by repeat (first | (with_reducible first | exact HB.out | apply below_alloc | apply pw_below_drewN | apply below_drew1 | refine below_set ?_ GE471.out) | exact HB.out))) : w.heap.size ≤ gb472)); have n4_ := Aside0.mk ((by rw [hg]; exact (below_size (by repeat (first | (with_reducible first | exact HB.out | apply below_alloc | apply pw_below_drewN | apply below_drew1 | refine below_set ?_ GE471.out) | exact HB.out))) : w.heap.size ≤ gb472)); have n5_ := Aside0.mk ((by rw [hg]; exact Nat.ne_of_lt (blk_lt (g := gb471) (o := .cells #[.slice A1_0 l1_0.length c1_0, .slice A1_1 l1_1.length c1_1, .int .i64 a1_2, .int .i64 a1_3] 31 (0, 0)) (by (with_reducible repeat (first | refine blk_drewN ?_ _ | refine blk_drew ?_ | refine blk_alloc ?_ _)); exact BK471.out)) : gb471 ≠ gb472)); have n6_ := Aside0.mk ((by rw [hg]; exact Nat.ne_of_gt (blk_lt (g := gb471) (o := .cells #[.slice A1_0 l1_0.length c1_0, .slice A1_1 l1_1.length c1_1, .int .i64 a1_2, .int .i64 a1_3] 31 (0, 0)) (by (with_reducible repeat (first | refine blk_drewN ?_ _ | refine blk_drew ?_ | refine blk_alloc ?_ _)); exact BK471.out)) : gb472 ≠ gb471)); clear BK471; clear HB; have BK471 := n0_; have HB := n1_; have BK472 := n2_; have GW472 := n3_; have GE472 := n4_; have NB471_472 := n5_; have NB472_471 := n6_; clear n0_ n1_ n2_ n3_ n4_ n5_ n6_; clear hb hbox hg) | ((with_reducible refine gate_dst (N := 8) rfl ?_); refine box_event ?hg (N := 8) ?hd (cs := #[.slice none 0 0, .slice none 0 0, .int .i64 0, .int .i64 0]) (t := 31) ?hr ?_; (case hd => rfl); (case hg => rfl); (case hr => first | (go_simp; done) | (go_simp; rfl)); intro gb473 hg w24 hbox hb; have n0_ := Aside0.mk (blk_below (g := gb471) (o := .cells #[.slice A1_0 l1_0.length c1_0, .slice A1_1 l1_1.length c1_1, .int .i64 a1_2, .int .i64 a1_3] 31 (0, 0)) (by (with_reducible repeat (first | refine blk_drewN ?_ _ | refine blk_drew ?_ | refine blk_alloc ?_ _)); exact BK471.out) hb); have n1_ := Aside0.mk (blk_below (g := gb472) (o := .cells #[.slice A2_0 l2_0.length c2_0, .slice A2_1 l2_1.length c2_1, .int .i64 a2_2, .int .i64 a2_3] 31 (0, 0)) (by (with_reducible repeat (first | refine blk_drewN ?_ _ | refine blk_drew ?_ | refine blk_alloc ?_ _)); exact BK472.out) hb); have n2_ := Aside0.mk (below_step (by repeat (first | (with_reducible first | exact HB.out | apply below_alloc | apply pw_below_drewN | apply below_drew1 | refine below_set ?_ GE471.out | refine below_set ?_ GE472.out) | exact HB.out)) hb); have n3_ := Aside0.mk (hbox); have n4_ := Aside0.mk ((by rw [hg]; exact (below_size (by repeat (first | (with_reducible first | exact HB.out | apply below_alloc | apply pw_below_drewN | apply below_drew1 | refine below_set ?_ GE471.out | refine below_set ?_ GE472.out) | exact HB.out))) : w.heap.size ≤ gb473)); have n5_ := Aside0.mk ((by rw [hg]; exact (below_size (by repeat (first | (with_reducible first | exact HB.out | apply below_alloc | apply pw_below_drewN | apply below_drew1 | refine below_set ?_ GE471.out | refine below_set ?_ GE472.out) | exact HB.out))) : w.heap.size ≤ gb473)); have n6_ := Aside0.mk ((by rw [hg]; exact Nat.ne_of_lt (blk_lt (g := gb471) (o := .cells #[.slice A1_0 l1_0.length c1_0, .slice A1_1 l1_1.length c1_1, .int .i64 a1_2, .int .i64 a1_3] 31 (0, 0)) (by (with_reducible repeat (first | refine blk_drewN ?_ _ | refine blk_drew ?_ | refine blk_alloc ?_ _)); exact BK471.out)) : gb471 ≠ gb473)); have n7_ := Aside0.mk ((by rw [hg]; exact Nat.ne_of_gt (blk_lt (g := gb471) (o := .cells #[.slice A1_0 l1_0.length c1_0, .slice A1_1 l1_1.length c1_1, .int .i64 a1_2, .int .i64 a1_3] 31 (0, 0)) (by (with_reducible repeat (first | refine blk_drewN ?_ _ | refine blk_drew ?_ | refine blk_alloc ?_ _)); exact BK471.out)) : gb473 ≠ gb471)); have n8_ := Aside0.mk ((by rw [hg]; exact Nat.ne_of_lt (blk_lt (g := gb472) (o := .cells #[.slice A2_0 l2_0.length c2_0, .slice A2_1 l2_1.length c2_1, .int .i64 a2_2, .int .i64 a2_3] 31 (0, 0)) (by (with_reducible repeat (first | refine blk_drewN ?_ _ | refine blk_drew ?_ | refine blk_alloc ?_ _)); exact BK472.out)) : gb472 ≠ gb473)); have n9_ := Aside0.mk ((by rw [hg]; exact Nat.ne_of_gt (blk_lt (g := gb472) (o := .cells #[.slice A2_0 l2_0.length c2_0, .slice A2_1 l2_1.length c2_1, .int .i64 a2_2, .int .i64 a2_3] 31 (0, 0)) (by (with_reducible repeat (first | refine blk_drewN ?_ _ | refine blk_drew ?_ | refine blk_alloc ?_ _)); exact BK472.out)) : gb473 ≠ gb472)); clear BK471; clear BK472; clear HB; have BK471 := n0_; have BK472 := n1_; have HB := n2_; have BK473 := n3_; have GW473 := n4_; have GE473 := n5_; have NB471_473 := n6_; have NB473_471 := n7_; have NB472_473 := n8_; have NB473_472 := n9_; clear n0_ n1_ n2_ n3_ n4_ n5_ n6_ n7_ n8_ n9_; clear hb hbox hg; have hnb25 := NB471_472.out; have hnc25 := NB472_471.out; have hnb26 := NB471_473.out; have hnc26 := NB473_471.out; have hcz27_0 : w24.cell? ⟨gb471, 0, none⟩ = some (.slice A1_0 l1_0.length c1_0) := (blk_cell BK471.out 0).trans rfl; have hcz27_1 : w24.cell? ⟨gb471, 1, none⟩ = some (.slice A1_1 l1_1.length c1_1) := (blk_cell BK471.out 1).trans rfl; have hcz27_2 : w24.cell? ⟨gb471, 2, none⟩ = some (.int .i64 a1_2) := (blk_cell BK471.out 2).trans rfl; have hcz27_3 : w24.cell? ⟨gb471, 3, none⟩ = some (.int .i64 a1_3) := (blk_cell BK471.out 3).trans rfl; have hfz27_0 := blk_frozen BK471.out 0; have hfz27_1 := blk_frozen BK471.out 1; have hfz27_2 := blk_frozen BK471.out 2; have hfz27_3 := blk_frozen BK471.out 3) | ((with_reducible refine gate_callee (f := 31) rfl ?_); refine goesL_ (some 19) rfl rfl Try.func31 (by kernel_rfl) rfl #[.agg #[.slice A1_0 l1_0.length c1_0, .slice A1_1 l1_1.length c1_1, .int .i64 a1_2, .int .i64 a1_3]] rfl (by (try simp only [List.map_toArray, List.map_cons, List.map_nil]); first | done | rfl | (simp only [List.length_drop, List.length_take]; rfl)) ?_; (with_reducible refine (state_Clone.calls k _ _ l1_0 _ _ l1_1 a1_2 a1_3 t485 t488 t491 t492 _ ?side1 ?side2 ?side3 ?side4 A20.out).mono ?_); (case side1 => repeat (first | exact (Kd.C_below HR1_0.out HB.out) | (with_reducible refine Kd.C_alloc ?_ _) | (with_reducible refine Kd.C_drewN ?_ _) | (with_reducible refine Kd.C_drew ?_))); (case side2 => exact HC1_0.out); (case side3 => repeat (first | exact (Kd.C_below HR1_1.out HB.out) | (with_reducible refine Kd.C_alloc ?_ _) | (with_reducible refine Kd.C_drewN ?_ _) | (with_reducible refine Kd.C_drew ?_))); (case side4 => exact HC1_1.out); rintro e w28 ⟨v486, v489, rfl, ho0, ho1, hb⟩; refine ⟨_, rfl, ?_⟩; have n0_ := Aside0.mk (Kd.S_lower ho0 (below_size (by repeat (first | (with_reducible first | exact HB.out | apply below_alloc | apply pw_below_drewN | apply below_drew1 | refine below_set ?_ GE471.out | refine below_set ?_ GE472.out | refine below_set ?_ GE473.out) | exact HB.out)))); have n1_ := Aside0.mk (Kd.R_lower ho1 (below_size (by repeat (first | (with_reducible first | exact HB.out | apply below_alloc | apply pw_below_drewN | apply below_drew1 | refine below_set ?_ GE471.out | refine below_set ?_ GE472.out | refine below_set ?_ GE473.out) | exact HB.out)))); have n2_ := Aside0.mk (blk_below (g := gb471) (o := .cells #[.slice A1_0 l1_0.length c1_0, .slice A1_1 l1_1.length c1_1, .int .i64 a1_2, .int .i64 a1_3] 31 (0, 0)) (by (with_reducible repeat (first | refine blk_drewN ?_ _ | refine blk_drew ?_ | refine blk_alloc ?_ _)); exact BK471.out) hb); have n3_ := Aside0.mk (blk_below (g := gb472) (o := .cells #[.slice A2_0 l2_0.length c2_0, .slice A2_1 l2_1.length c2_1, .int .i64 a2_2, .int .i64 a2_3] 31 (0, 0)) (by (with_reducible repeat (first | refine blk_drewN ?_ _ | refine blk_drew ?_ | refine blk_alloc ?_ _)); exact BK472.out) hb); have n4_ := Aside0.mk (blk_below (g := gb473) (o := .cells #[.slice none 0 0, .slice none 0 0, .int .i64 0, .int .i64 0] 31 (0, 0)) (by (with_reducible repeat (first | refine blk_drewN ?_ _ | refine blk_drew ?_ | refine blk_alloc ?_ _)); exact BK473.out) hb); have n5_ := Aside0.mk (below_step (by repeat (first | (with_reducible first | exact HB.out | apply below_alloc | apply pw_below_drewN | apply below_drew1 | refine below_set ?_ GE471.out | refine below_set ?_ GE472.out | refine below_set ?_ GE473.out) | exact HB.out)) hb); clear BK471; clear BK472; clear BK473; clear HB; have HO487 := n0_; have HO490 := n1_; have BK471 := n2_; have BK472 := n3_; have BK473 := n4_; have HB := n5_; clear n0_ n1_ n2_ n3_ n4_ n5_; (try clear hb); (try clear hb2); (try clear hk); (try clear hi); (try clear ho0); (try clear ho1)) | ((with_reducible refine gate_dst (N := 10) rfl ?_); refine box_event ?hg (N := 10) ?hd (cs := #[.slice none 0 0, .slice none 0 0, .int .i64 0, .int .i64 0]) (t := 31) ?hr ?_; (case hd => rfl); (case hg => rfl); (case hr => first | (go_simp; done) | (go_simp; rfl)); intro gb493 hg w29 hbox hb; have n0_ := Aside0.mk (Kd.S_below (by (with_reducible repeat (first | apply Kd.S_alloc | apply Kd.S_drewN | apply Kd.S_drew)); exact HO487.out) hb); have n1_ := Aside0.mk (Kd.R_below (by (with_reducible repeat (first | apply Kd.R_alloc | apply Kd.R_drewN | apply Kd.R_drew)); exact HO490.out) hb); have n2_ := Aside0.mk (blk_below (g := gb471) (o := .cells #[.slice A1_0 l1_0.length c1_0, .slice A1_1 l1_1.length c1_1, .int .i64 a1_2, .int .i64 a1_3] 31 (0, 0)) (by (with_reducible repeat (first | refine blk_drewN ?_ _ | refine blk_drew ?_ | refine blk_alloc ?_ _)); exact BK471.out) hb); have n3_ := Aside0.mk (blk_below (g := gb472) (o := .cells #[.slice A2_0 l2_0.length c2_0, .slice A2_1 l2_1.length c2_1, .int .i64 a2_2, .int .i64 a2_3] 31 (0, 0)) (by (with_reducible repeat (first | refine blk_drewN ?_ _ | refine blk_drew ?_ | refine blk_alloc ?_ _)); exact BK472.out) hb); have n4_ := Aside0.mk (blk_below (g := gb473) (o := .cells #[.slice none 0 0, .slice none 0 0, .int .i64 0, .int .i64 0] 31 (0, 0)) (by (with_reducible repeat (first | refine blk_drewN ?_ _ | refine blk_drew ?_ | refine blk_alloc ?_ _)); exact BK473.out) hb); have n5_ := Aside0.mk (below_step (by repeat (first | (with_reducible first | exact HB.out | apply below_alloc | apply pw_below_drewN | apply below_drew1 | refine below_set ?_ GE471.out | refine below_set ?_ GE472.out | refine below_set ?_ GE473.out) | exact HB.out)) hb); have n6_ := Aside0.mk (hbox); have n7_ := Aside0.mk ((by rw [hg]; exact (below_size (by repeat (first | (with_reducible first | exact HB.out | apply below_alloc | apply pw_below_drewN | apply below_drew1 | refine below_set ?_ GE471.out | refine below_set ?_ GE472.out | refine below_set ?_ GE473.out) | exact HB.out))) : w.heap.size ≤ gb493)); have n8_ := Aside0.mk ((by rw [hg]; exact (below_size (by repeat (first | (with_reducible first | exact HB.out | apply below_alloc | apply pw_below_drewN | apply below_drew1 | refine below_set ?_ GE471.out | refine below_set ?_ GE472.out | refine below_set ?_ GE473.out) | exact HB.out))) : w.heap.size ≤ gb493)); have n9_ := Aside0.mk ((by rw [hg]; exact Nat.ne_of_lt (blk_lt (g := gb471) (o := .cells #[.slice A1_0 l1_0.length c1_0, .slice A1_1 l1_1.length c1_1, .int .i64 a1_2, .int .i64 a1_3] 31 (0, 0)) (by (with_reducible repeat (first | refine blk_drewN ?_ _ | refine blk_drew ?_ | refine blk_alloc ?_ _)); exact BK471.out)) : gb471 ≠ gb493)); have n10_ := Aside0.mk ((by rw [hg]; exact Nat.ne_of_gt (blk_lt (g := gb471) (o := .cells #[.slice A1_0 l1_0.length c1_0, .slice A1_1 l1_1.length c1_1, .int .i64 a1_2, .int .i64 a1_3] 31 (0, 0)) (by (with_reducible repeat (first | refine blk_drewN ?_ _ | refine blk_drew ?_ | refine blk_alloc ?_ _)); exact BK471.out)) : gb493 ≠ gb471)); have n11_ := Aside0.mk ((by rw [hg]; exact Nat.ne_of_lt (blk_lt (g := gb472) (o := .cells #[.slice A2_0 l2_0.length c2_0, .slice A2_1 l2_1.length c2_1, .int .i64 a2_2, .int .i64 a2_3] 31 (0, 0)) (by (with_reducible repeat (first | refine blk_drewN ?_ _ | refine blk_drew ?_ | refine blk_alloc ?_ _)); exact BK472.out)) : gb472 ≠ gb493)); have n12_ := Aside0.mk ((by rw [hg]; exact Nat.ne_of_gt (blk_lt (g := gb472) (o := .cells #[.slice A2_0 l2_0.length c2_0, .slice A2_1 l2_1.length c2_1, .int .i64 a2_2, .int .i64 a2_3] 31 (0, 0)) (by (with_reducible repeat (first | refine blk_drewN ?_ _ | refine blk_drew ?_ | refine blk_alloc ?_ _)); exact BK472.out)) : gb493 ≠ gb472)); have n13_ := Aside0.mk ((by rw [hg]; exact Nat.ne_of_lt (blk_lt (g := gb473) (o := .cells #[.slice none 0 0, .slice none 0 0, .int .i64 0, .int .i64 0] 31 (0, 0)) (by (with_reducible repeat (first | refine blk_drewN ?_ _ | refine blk_drew ?_ | refine blk_alloc ?_ _)); exact BK473.out)) : gb473 ≠ gb493)); have n14_ := Aside0.mk ((by rw [hg]; exact Nat.ne_of_gt (blk_lt (g := gb473) (o := .cells #[.slice none 0 0, .slice none 0 0, .int .i64 0, .int .i64 0] 31 (0, 0)) (by (with_reducible repeat (first | refine blk_drewN ?_ _ | refine blk_drew ?_ | refine blk_alloc ?_ _)); exact BK473.out)) : gb493 ≠ gb473)); clear HO487; clear HO490; clear BK471; clear BK472; clear BK473; clear HB; have HO487 := n0_; have HO490 := n1_; have BK471 := n2_; have BK472 := n3_; have BK473 := n4_; have HB := n5_; have BK493 := n6_; have GW493 := n7_; have GE493 := n8_; have NB471_493 := n9_; have NB493_471 := n10_; have NB472_493 := n11_; have NB493_472 := n12_; have NB473_493 := n13_; have NB493_473 := n14_; clear n0_ n1_ n2_ n3_ n4_ n5_ n6_ n7_ n8_ n9_ n10_ n11_ n12_ n13_ n14_; clear hb hbox hg; obtain ⟨Ao30, co30, eo30⟩ := Kd.S_slice HO487.out; subst eo30; have hnb31 := NB493_471.out; have hnc31 := NB471_493.out; have hnb32 := NB493_472.out; have hnc32 := NB472_493.out; have hnb33 := NB493_473.out; have hnc33 := NB473_493.out; have hcz34_0 : w29.cell? ⟨gb493, 0, none⟩ = some (.slice none 0 0) := (blk_cell BK493.out 0).trans rfl; have hcz34_1 : w29.cell? ⟨gb493, 1, none⟩ = some (.slice none 0 0) := (blk_cell BK493.out 1).trans rfl; have hcz34_2 : w29.cell? ⟨gb493, 2, none⟩ = some (.int .i64 0) := (blk_cell BK493.out 2).trans rfl; have hcz34_3 : w29.cell? ⟨gb493, 3, none⟩ = some (.int .i64 0) := (blk_cell BK493.out 3).trans rfl; have hfz34_0 := blk_frozen BK493.out 0; have hfz34_1 := blk_frozen BK493.out 1; have hfz34_2 := blk_frozen BK493.out 2; have hfz34_3 := blk_frozen BK493.out 3; obtain ⟨Ao35, co35, eo35⟩ := Kd.R_slice HO490.out; subst eo35))
    have n0_ : Aside0 (Kd.S (Kd.slice 3 (Kd.int .i64)) 32 (((((w29.setCell ⟨gb493, 0, none⟩ (.slice Ao30 t485.length co30)).setCell ⟨gb493, 1, none⟩ (.slice Ao35 t488.length co35)).setCell ⟨gb493, 2, none⟩ (.int .i64 t491)).setCell ⟨gb493, 3, none⟩ (.int .i64 t492)).setCell ⟨gb493, 3, none⟩ (.int .i64 a3)) w.heap.size (fun _ => True) (.slice Ao30 t485.length co30) t485) := ⟨by (with_reducible repeat (first | apply Kd.S_alloc | apply Kd.S_drewN | apply Kd.S_drew)); exact Kd.S_mono (Kd.S_far (p := ⟨gb493, 3, none⟩) (Kd.S_far (p := ⟨gb493, 3, none⟩) (Kd.S_far (p := ⟨gb493, 2, none⟩) (Kd.S_far (p := ⟨gb493, 1, none⟩) (Kd.S_far (p := ⟨gb493, 0, none⟩) (Kd.S_types HO487.out BK493.out (by decide)) (fun _ hk => hk.2) (.slice Ao30 t485.length co30)) (fun _ hk => hk.2) (.slice Ao35 t488.length co35)) (fun _ hk => hk.2) (.int .i64 t491)) (fun _ hk => hk.2) (.int .i64 t492)) (fun _ hk => hk.2) (.int .i64 a3)) (fun _ hk => trivial)⟩
    have n1_ : Aside0 (Kd.R k69 69 (((((w29.setCell ⟨gb493, 0, none⟩ (.slice Ao30 t485.length co30)).setCell ⟨gb493, 1, none⟩ (.slice Ao35 t488.length co35)).setCell ⟨gb493, 2, none⟩ (.int .i64 t491)).setCell ⟨gb493, 3, none⟩ (.int .i64 t492)).setCell ⟨gb493, 3, none⟩ (.int .i64 a3)) w.heap.size (fun _ => True) (.slice Ao35 t488.length co35) t488) := ⟨by (with_reducible repeat (first | apply Kd.R_alloc | apply Kd.R_drewN | apply Kd.R_drew)); exact Kd.R_mono (Kd.R_far (p := ⟨gb493, 3, none⟩) (Kd.R_far (p := ⟨gb493, 3, none⟩) (Kd.R_far (p := ⟨gb493, 2, none⟩) (Kd.R_far (p := ⟨gb493, 1, none⟩) (Kd.R_far (p := ⟨gb493, 0, none⟩) (Kd.R_types HO490.out BK493.out (by decide)) (fun _ hk => hk.2) (.slice Ao30 t485.length co30)) (fun _ hk => hk.2) (.slice Ao35 t488.length co35)) (fun _ hk => hk.2) (.int .i64 t491)) (fun _ hk => hk.2) (.int .i64 t492)) (fun _ hk => hk.2) (.int .i64 a3)) (fun _ hk => trivial)⟩
    have n2_ : Aside0 ((((((w29.setCell ⟨gb493, 0, none⟩ (.slice Ao30 t485.length co30)).setCell ⟨gb493, 1, none⟩ (.slice Ao35 t488.length co35)).setCell ⟨gb493, 2, none⟩ (.int .i64 t491)).setCell ⟨gb493, 3, none⟩ (.int .i64 t492)).setCell ⟨gb493, 3, none⟩ (.int .i64 a3)).heap[gb471]? = some (.cells #[.slice A1_0 l1_0.length c1_0, .slice A1_1 l1_1.length c1_1, .int .i64 a1_2, .int .i64 a1_3] 31 (0, 0))) := ⟨by (with_reducible repeat (first | refine blk_drewN ?_ _ | refine blk_drew ?_ | refine blk_alloc ?_ _)); refine blk_far ?_ NB471_493.out _; (with_reducible repeat (first | refine blk_drewN ?_ _ | refine blk_drew ?_ | refine blk_alloc ?_ _)); refine blk_far ?_ NB471_493.out _; (with_reducible repeat (first | refine blk_drewN ?_ _ | refine blk_drew ?_ | refine blk_alloc ?_ _)); refine blk_far ?_ NB471_493.out _; (with_reducible repeat (first | refine blk_drewN ?_ _ | refine blk_drew ?_ | refine blk_alloc ?_ _)); refine blk_far ?_ NB471_493.out _; (with_reducible repeat (first | refine blk_drewN ?_ _ | refine blk_drew ?_ | refine blk_alloc ?_ _)); refine blk_far ?_ NB471_493.out _; (with_reducible repeat (first | refine blk_drewN ?_ _ | refine blk_drew ?_ | refine blk_alloc ?_ _)); exact BK471.out⟩
    have n3_ : Aside0 ((((((w29.setCell ⟨gb493, 0, none⟩ (.slice Ao30 t485.length co30)).setCell ⟨gb493, 1, none⟩ (.slice Ao35 t488.length co35)).setCell ⟨gb493, 2, none⟩ (.int .i64 t491)).setCell ⟨gb493, 3, none⟩ (.int .i64 t492)).setCell ⟨gb493, 3, none⟩ (.int .i64 a3)).heap[gb472]? = some (.cells #[.slice A2_0 l2_0.length c2_0, .slice A2_1 l2_1.length c2_1, .int .i64 a2_2, .int .i64 a2_3] 31 (0, 0))) := ⟨by (with_reducible repeat (first | refine blk_drewN ?_ _ | refine blk_drew ?_ | refine blk_alloc ?_ _)); refine blk_far ?_ NB472_493.out _; (with_reducible repeat (first | refine blk_drewN ?_ _ | refine blk_drew ?_ | refine blk_alloc ?_ _)); refine blk_far ?_ NB472_493.out _; (with_reducible repeat (first | refine blk_drewN ?_ _ | refine blk_drew ?_ | refine blk_alloc ?_ _)); refine blk_far ?_ NB472_493.out _; (with_reducible repeat (first | refine blk_drewN ?_ _ | refine blk_drew ?_ | refine blk_alloc ?_ _)); refine blk_far ?_ NB472_493.out _; (with_reducible repeat (first | refine blk_drewN ?_ _ | refine blk_drew ?_ | refine blk_alloc ?_ _)); refine blk_far ?_ NB472_493.out _; (with_reducible repeat (first | refine blk_drewN ?_ _ | refine blk_drew ?_ | refine blk_alloc ?_ _)); exact BK472.out⟩
    have n4_ : Aside0 ((((((w29.setCell ⟨gb493, 0, none⟩ (.slice Ao30 t485.length co30)).setCell ⟨gb493, 1, none⟩ (.slice Ao35 t488.length co35)).setCell ⟨gb493, 2, none⟩ (.int .i64 t491)).setCell ⟨gb493, 3, none⟩ (.int .i64 t492)).setCell ⟨gb493, 3, none⟩ (.int .i64 a3)).heap[gb473]? = some (.cells #[.slice none 0 0, .slice none 0 0, .int .i64 0, .int .i64 0] 31 (0, 0))) := ⟨by (with_reducible repeat (first | refine blk_drewN ?_ _ | refine blk_drew ?_ | refine blk_alloc ?_ _)); refine blk_far ?_ NB473_493.out _; (with_reducible repeat (first | refine blk_drewN ?_ _ | refine blk_drew ?_ | refine blk_alloc ?_ _)); refine blk_far ?_ NB473_493.out _; (with_reducible repeat (first | refine blk_drewN ?_ _ | refine blk_drew ?_ | refine blk_alloc ?_ _)); refine blk_far ?_ NB473_493.out _; (with_reducible repeat (first | refine blk_drewN ?_ _ | refine blk_drew ?_ | refine blk_alloc ?_ _)); refine blk_far ?_ NB473_493.out _; (with_reducible repeat (first | refine blk_drewN ?_ _ | refine blk_drew ?_ | refine blk_alloc ?_ _)); refine blk_far ?_ NB473_493.out _; (with_reducible repeat (first | refine blk_drewN ?_ _ | refine blk_drew ?_ | refine blk_alloc ?_ _)); exact BK473.out⟩
    have n5_ : Aside0 ((((((w29.setCell ⟨gb493, 0, none⟩ (.slice Ao30 t485.length co30)).setCell ⟨gb493, 1, none⟩ (.slice Ao35 t488.length co35)).setCell ⟨gb493, 2, none⟩ (.int .i64 t491)).setCell ⟨gb493, 3, none⟩ (.int .i64 t492)).setCell ⟨gb493, 3, none⟩ (.int .i64 a3)).heap[gb493]? = some (.cells #[.slice Ao30 t485.length co30, .slice Ao35 t488.length co35, .int .i64 t491, .int .i64 a3] 31 (0, 0))) := ⟨by (with_reducible repeat (first | refine blk_drewN ?_ _ | refine blk_drew ?_ | refine blk_alloc ?_ _)); refine blk_put (cs := #[.slice Ao30 t485.length co30, .slice Ao35 t488.length co35, .int .i64 t491, .int .i64 t492]) ?_ 3 _ rfl; (with_reducible repeat (first | refine blk_drewN ?_ _ | refine blk_drew ?_ | refine blk_alloc ?_ _)); refine blk_put (cs := #[.slice Ao30 t485.length co30, .slice Ao35 t488.length co35, .int .i64 t491, .int .i64 0]) ?_ 3 _ rfl; (with_reducible repeat (first | refine blk_drewN ?_ _ | refine blk_drew ?_ | refine blk_alloc ?_ _)); refine blk_put (cs := #[.slice Ao30 t485.length co30, .slice Ao35 t488.length co35, .int .i64 0, .int .i64 0]) ?_ 2 _ rfl; (with_reducible repeat (first | refine blk_drewN ?_ _ | refine blk_drew ?_ | refine blk_alloc ?_ _)); refine blk_put (cs := #[.slice Ao30 t485.length co30, .slice none 0 0, .int .i64 0, .int .i64 0]) ?_ 1 _ rfl; (with_reducible repeat (first | refine blk_drewN ?_ _ | refine blk_drew ?_ | refine blk_alloc ?_ _)); refine blk_put (cs := #[.slice none 0 0, .slice none 0 0, .int .i64 0, .int .i64 0]) ?_ 0 _ rfl; (with_reducible repeat (first | refine blk_drewN ?_ _ | refine blk_drew ?_ | refine blk_alloc ?_ _)); exact BK493.out⟩
    have n6_ : Aside0 (Below w.heap.size w (((((w29.setCell ⟨gb493, 0, none⟩ (.slice Ao30 t485.length co30)).setCell ⟨gb493, 1, none⟩ (.slice Ao35 t488.length co35)).setCell ⟨gb493, 2, none⟩ (.int .i64 t491)).setCell ⟨gb493, 3, none⟩ (.int .i64 t492)).setCell ⟨gb493, 3, none⟩ (.int .i64 a3))) := ⟨by repeat (first | (with_reducible first | exact HB.out | apply below_alloc | apply pw_below_drewN | apply below_drew1 | refine below_set ?_ GE471.out | refine below_set ?_ GE472.out | refine below_set ?_ GE473.out | refine below_set ?_ GE493.out) | exact HB.out)⟩
    (try clear HO487)
    (try clear HO490)
    (try clear BK471)
    (try clear BK472)
    (try clear BK473)
    (try clear BK493)
    (try clear HB)
    generalize (((((w29.setCell ⟨gb493, 0, none⟩ (.slice Ao30 t485.length co30)).setCell ⟨gb493, 1, none⟩ (.slice Ao35 t488.length co35)).setCell ⟨gb493, 2, none⟩ (.int .i64 t491)).setCell ⟨gb493, 3, none⟩ (.int .i64 t492)).setCell ⟨gb493, 3, none⟩ (.int .i64 a3)) = w36 at n0_ n1_ n2_ n3_ n4_ n5_ n6_ ⊢
    have HO487 := n0_
    have HO490 := n1_
    have BK471 := n2_
    have BK472 := n3_
    have BK473 := n4_
    have BK493 := n5_
    have HB := n6_
    clear n0_ n1_ n2_ n3_ n4_ n5_ n6_
    have n0_ := Aside0.mk (Kd.S_drew HO487.out)
    have n1_ := Aside0.mk (Kd.R_drew HO490.out)
    have n2_ := Aside0.mk (blk_drew BK471.out)
    have n3_ := Aside0.mk (blk_drew BK472.out)
    have n4_ := Aside0.mk (blk_drew BK473.out)
    have n5_ := Aside0.mk (blk_drew BK493.out)
    have n6_ := Aside0.mk (below_drew1 HB.out)
    clear HO487
    clear HO490
    clear BK471
    clear BK472
    clear BK473
    clear BK493
    clear HB
    have HO487 := n0_
    have HO490 := n1_
    have BK471 := n2_
    have BK472 := n3_
    have BK473 := n4_
    have BK493 := n5_
    have HB := n6_
    clear n0_ n1_ n2_ n3_ n4_ n5_ n6_
    refine start_ (n := 6) (S := fun w' => w'.cell? ⟨gb493, 0, none⟩ = some (.slice Ao30 t485.length co30) ∧ w'.cell? ⟨gb493, 1, none⟩ = some (.slice Ao35 t488.length co35) ∧ w'.cell? ⟨gb493, 2, none⟩ = some (.int .i64 t491) ∧ w'.cell? ⟨gb493, 3, none⟩ = some (.int .i64 a3) ∧ w'.cell? ⟨gb471, 0, none⟩ = some (.slice A1_0 l1_0.length c1_0) ∧ w'.cell? ⟨gb471, 1, none⟩ = some (.slice A1_1 l1_1.length c1_1) ∧ w'.cell? ⟨gb471, 2, none⟩ = some (.int .i64 a1_2) ∧ w'.cell? ⟨gb471, 3, none⟩ = some (.int .i64 a1_3)) (ds := []) #[false, false, false, false, false, false] (by kernel_rfl) rfl rfl ⟨(blk_cell BK493.out 0).trans rfl, (blk_cell BK493.out 1).trans rfl, (blk_cell BK493.out 2).trans rfl, (blk_cell BK493.out 3).trans rfl, (blk_cell BK471.out 0).trans rfl, (blk_cell BK471.out 1).trans rfl, (blk_cell BK471.out 2).trans rfl, (blk_cell BK471.out 3).trans rfl⟩ (fun hHeld => ?_)
    generalize w36.drew = w37 at HO487 HO490 BK471 BK472 BK473 BK493 HB hHeld ⊢
    refine pure_ (i := 1) (N := some 23) (v := ?_) (a' := ?_) #[false, true, false, false, false, false] rfl rfl (by kernel_rfl) (fun _ _ _ h => h) (Or.inl ⟨by rfl, ?_⟩) ?_ ?_
    rotate_left
    · intro w'
      go_simp
      with_reducible rfl
    rotate_left
    · simp only [Act.put, List.setIfInBounds_toArray, List.set_cons_zero, List.set_cons_succ, i64_w, i32_w]
      rfl
    refine take_ (i := 0) (N := some 22) (v := ?_) (a' := ?_) #[true, true, false, false, false, false] rfl rfl (by kernel_rfl) (fun _ _ _ h => h) (Or.inl ⟨by rfl, ?_⟩) hHeld ?_ ?_
    rotate_left
    · rintro w' ⟨s0, s1, s2, s3, s4, s5, s6, s7⟩
      go_simp
      with_reducible rfl
    rotate_left
    · simp only [Act.put, List.setIfInBounds_toArray, List.set_cons_zero, List.set_cons_succ, i64_w, i32_w]
      rfl
    refine take_ (i := 2) (N := some 24) (v := ?_) (a' := ?_) #[true, true, true, false, false, false] rfl rfl (by kernel_rfl) (fun _ _ _ h => h) (Or.inl ⟨by rfl, ?_⟩) hHeld ?_ ?_
    rotate_left
    · rintro w' ⟨s0, s1, s2, s3, s4, s5, s6, s7⟩
      go_simp
      with_reducible rfl
    rotate_left
    · simp only [Act.put, List.setIfInBounds_toArray, List.set_cons_zero, List.set_cons_succ, i64_w, i32_w]
      rfl
    refine one_ (i := 3) (N := some 25) #[true, true, true, true, false, false] rfl rfl (by kernel_rfl) (by decide) (fun K hK => ?_)
    refine goes_ Try.func18 (by kernel_rfl) rfl #[.slice A0 l0.length c0, .agg #[.slice A1_0 l1_0.length c1_0, .slice A1_1 l1_1.length c1_1, .int .i64 a1_2, .int .i64 a1_3]] (by rfl) rfl rfl (by (try simp only [List.map_toArray, List.map_cons, List.map_nil]); first | done | rfl | (simp only [List.length_drop, List.length_take]; rfl)) ?_
    with_reducible refine (cycle_Off.calls _ _ l0 _ _ l1_0 _ _ l1_1 a1_2 a1_3 t494 _ ?side1 ?side2 ?side3 ?side4 ?side5 ?side6 A21.out).mono ?_
    (case side1 => repeat (first | exact (Kd.C_below HR0.out HB.out) | (with_reducible refine Kd.C_alloc ?_ _) | (with_reducible refine Kd.C_drewN ?_ _) | (with_reducible refine Kd.C_drew ?_)))
    (case side2 => exact HC0.out)
    (case side3 => repeat (first | exact (Kd.C_below HR1_0.out HB.out) | (with_reducible refine Kd.C_alloc ?_ _) | (with_reducible refine Kd.C_drewN ?_ _) | (with_reducible refine Kd.C_drew ?_)))
    (case side4 => exact HC1_0.out)
    (case side5 => repeat (first | exact (Kd.C_below HR1_1.out HB.out) | (with_reducible refine Kd.C_alloc ?_ _) | (with_reducible refine Kd.C_drewN ?_ _) | (with_reducible refine Kd.C_drew ?_)))
    (case side6 => exact HC1_1.out)
    rintro e w38 ⟨v495, rfl, ho0, hb⟩
    refine ⟨_, rfl, ?_⟩
    have n0_ := Aside0.mk (Kd.S_elder' (by (with_reducible repeat (first | apply Kd.S_alloc | apply Kd.S_drewN | apply Kd.S_drew)); exact HO487.out) (Kd.R_base ho0) hb)
    have n1_ := Aside0.mk (Kd.R_below (by (with_reducible repeat (first | apply Kd.R_alloc | apply Kd.R_drewN | apply Kd.R_drew)); exact HO490.out) hb)
    have n2_ := Aside0.mk (Kd.R_lower ho0 (below_size (by repeat (first | (with_reducible first | exact HB.out | apply below_alloc | apply pw_below_drewN | apply below_drew1 | refine below_set ?_ GE471.out | refine below_set ?_ GE472.out | refine below_set ?_ GE473.out | refine below_set ?_ GE493.out) | exact HB.out))))
    have n3_ := Aside0.mk (blk_below (g := gb471) (o := .cells #[.slice A1_0 l1_0.length c1_0, .slice A1_1 l1_1.length c1_1, .int .i64 a1_2, .int .i64 a1_3] 31 (0, 0)) (by (with_reducible repeat (first | refine blk_drewN ?_ _ | refine blk_drew ?_ | refine blk_alloc ?_ _)); exact BK471.out) hb)
    have n4_ := Aside0.mk (blk_below (g := gb472) (o := .cells #[.slice A2_0 l2_0.length c2_0, .slice A2_1 l2_1.length c2_1, .int .i64 a2_2, .int .i64 a2_3] 31 (0, 0)) (by (with_reducible repeat (first | refine blk_drewN ?_ _ | refine blk_drew ?_ | refine blk_alloc ?_ _)); exact BK472.out) hb)
    have n5_ := Aside0.mk (blk_below (g := gb473) (o := .cells #[.slice none 0 0, .slice none 0 0, .int .i64 0, .int .i64 0] 31 (0, 0)) (by (with_reducible repeat (first | refine blk_drewN ?_ _ | refine blk_drew ?_ | refine blk_alloc ?_ _)); exact BK473.out) hb)
    have n6_ := Aside0.mk (blk_below (g := gb493) (o := .cells #[.slice Ao30 t485.length co30, .slice Ao35 t488.length co35, .int .i64 t491, .int .i64 a3] 31 (0, 0)) (by (with_reducible repeat (first | refine blk_drewN ?_ _ | refine blk_drew ?_ | refine blk_alloc ?_ _)); exact BK493.out) hb)
    have n7_ := Aside0.mk (below_step (by repeat (first | (with_reducible first | exact HB.out | apply below_alloc | apply pw_below_drewN | apply below_drew1 | refine below_set ?_ GE471.out | refine below_set ?_ GE472.out | refine below_set ?_ GE473.out | refine below_set ?_ GE493.out) | exact HB.out)) hb)
    clear HO487
    clear HO490
    clear BK471
    clear BK472
    clear BK473
    clear BK493
    clear HB
    have HO487 := n0_
    have HO490 := n1_
    have HO496 := n2_
    have BK471 := n3_
    have BK472 := n4_
    have BK473 := n5_
    have BK493 := n6_
    have HB := n7_
    clear n0_ n1_ n2_ n3_ n4_ n5_ n6_ n7_
    (try clear hb)
    (try clear hb2)
    (try clear hk)
    (try clear hi)
    (try clear ho0)
    refine hK.out _ _ ⟨(blk_cell BK493.out 0).trans rfl, (blk_cell BK493.out 1).trans rfl, (blk_cell BK493.out 2).trans rfl, (blk_cell BK493.out 3).trans rfl, (blk_cell BK471.out 0).trans rfl, (blk_cell BK471.out 1).trans rfl, (blk_cell BK471.out 2).trans rfl, (blk_cell BK471.out 3).trans rfl⟩ (fun hHeld => ?_)
    clear hK K
    refine norm_ (a' := ?_) ?_ ?_
    rotate_left
    · show Act.put _ (some 25) _ = _
      simp only [Act.put, List.setIfInBounds_toArray, List.set_cons_zero, List.set_cons_succ, i64_w, i32_w]
      rfl
    refine one_ (i := 4) (N := none) #[true, true, true, true, true, false] rfl rfl (by kernel_rfl) (by decide) (fun K hK => ?_)
    have hs39 : w38.cell? ⟨gb473, 0, none⟩ = some (.slice none 0 0) := (blk_cell BK473.out 0).trans rfl
    have hfs39 := blk_frozen BK473.out 0
    have hns39_0 := NB471_473.out
    have hns39_1 := NB472_473.out
    have hns39_3 := NB493_473.out
    have hms39_0 := NB473_471.out
    have hms39_1 := NB473_472.out
    have hms39_3 := NB473_493.out
    have hs40 : w38.cell? ⟨gb473, 1, none⟩ = some (.slice none 0 0) := (blk_cell BK473.out 1).trans rfl
    have hfs40 := blk_frozen BK473.out 1
    have hns40_0 := NB471_473.out
    have hns40_1 := NB472_473.out
    have hns40_3 := NB493_473.out
    have hms40_0 := NB473_471.out
    have hms40_1 := NB473_472.out
    have hms40_3 := NB473_493.out
    have hs41 : w38.cell? ⟨gb473, 2, none⟩ = some (.int .i64 0) := (blk_cell BK473.out 2).trans rfl
    have hfs41 := blk_frozen BK473.out 2
    have hns41_0 := NB471_473.out
    have hns41_1 := NB472_473.out
    have hns41_3 := NB493_473.out
    have hms41_0 := NB473_471.out
    have hms41_1 := NB473_472.out
    have hms41_3 := NB473_493.out
    have hs42 : w38.cell? ⟨gb473, 3, none⟩ = some (.int .i64 0) := (blk_cell BK473.out 3).trans rfl
    have hfs42 := blk_frozen BK473.out 3
    have hns42_0 := NB471_473.out
    have hns42_1 := NB472_473.out
    have hns42_3 := NB493_473.out
    have hms42_0 := NB473_471.out
    have hms42_1 := NB473_472.out
    have hms42_3 := NB473_493.out
    refine skip_ (w1 := ?_) (by rfl) rfl ?_ ?_
    rotate_left
    · go_simp
      rfl
    refine hK.out _ _ ⟨((cell_far (p := ⟨gb473, _, none⟩) NB493_473.out _).trans (((cell_far (p := ⟨gb473, _, none⟩) NB493_473.out _).trans (((cell_far (p := ⟨gb473, _, none⟩) NB493_473.out _).trans (((cell_far (p := ⟨gb473, _, none⟩) NB493_473.out _).trans (hHeld.1)))))))), ((cell_far (p := ⟨gb473, _, none⟩) NB493_473.out _).trans (((cell_far (p := ⟨gb473, _, none⟩) NB493_473.out _).trans (((cell_far (p := ⟨gb473, _, none⟩) NB493_473.out _).trans (((cell_far (p := ⟨gb473, _, none⟩) NB493_473.out _).trans (hHeld.2.1)))))))), ((cell_far (p := ⟨gb473, _, none⟩) NB493_473.out _).trans (((cell_far (p := ⟨gb473, _, none⟩) NB493_473.out _).trans (((cell_far (p := ⟨gb473, _, none⟩) NB493_473.out _).trans (((cell_far (p := ⟨gb473, _, none⟩) NB493_473.out _).trans (hHeld.2.2.1)))))))), ((cell_far (p := ⟨gb473, _, none⟩) NB493_473.out _).trans (((cell_far (p := ⟨gb473, _, none⟩) NB493_473.out _).trans (((cell_far (p := ⟨gb473, _, none⟩) NB493_473.out _).trans (((cell_far (p := ⟨gb473, _, none⟩) NB493_473.out _).trans (hHeld.2.2.2.1)))))))), ((cell_far (p := ⟨gb473, _, none⟩) NB471_473.out _).trans (((cell_far (p := ⟨gb473, _, none⟩) NB471_473.out _).trans (((cell_far (p := ⟨gb473, _, none⟩) NB471_473.out _).trans (((cell_far (p := ⟨gb473, _, none⟩) NB471_473.out _).trans (hHeld.2.2.2.2.1)))))))), ((cell_far (p := ⟨gb473, _, none⟩) NB471_473.out _).trans (((cell_far (p := ⟨gb473, _, none⟩) NB471_473.out _).trans (((cell_far (p := ⟨gb473, _, none⟩) NB471_473.out _).trans (((cell_far (p := ⟨gb473, _, none⟩) NB471_473.out _).trans (hHeld.2.2.2.2.2.1)))))))), ((cell_far (p := ⟨gb473, _, none⟩) NB471_473.out _).trans (((cell_far (p := ⟨gb473, _, none⟩) NB471_473.out _).trans (((cell_far (p := ⟨gb473, _, none⟩) NB471_473.out _).trans (((cell_far (p := ⟨gb473, _, none⟩) NB471_473.out _).trans (hHeld.2.2.2.2.2.2.1)))))))), ((cell_far (p := ⟨gb473, _, none⟩) NB471_473.out _).trans (((cell_far (p := ⟨gb473, _, none⟩) NB471_473.out _).trans (((cell_far (p := ⟨gb473, _, none⟩) NB471_473.out _).trans (((cell_far (p := ⟨gb473, _, none⟩) NB471_473.out _).trans (hHeld.2.2.2.2.2.2.2))))))))⟩ (fun hHeld => ?_)
    clear hK K
    refine pure_ (i := 5) (N := some 9) (v := ?_) (a' := ?_) #[true, true, true, true, true, true] rfl rfl (by kernel_rfl) (fun _ _ _ h => h) (Or.inl ⟨by rfl, ?_⟩) ?_ ?_
    rotate_left
    · intro w'
      go_simp
      with_reducible rfl
    rotate_left
    · simp only [Act.put, List.setIfInBounds_toArray, List.set_cons_zero, List.set_cons_succ, i64_w, i32_w]
      rfl
    refine done_ (by kernel_rfl) ?_
    try go_wp2
    refine bodyPost_ret (results_ct rfl _ _ gb473 31 #[.slice Ao30 t485.length co30, .slice Ao35 t488.length co35, .int .i64 t491, .int .i64 a3] (0, 0) _ rfl (by (with_reducible repeat (first | refine blk_drewN ?_ _ | refine blk_drew ?_ | refine blk_alloc ?_ _)); refine blk_put (cs := #[.slice Ao30 t485.length co30, .slice Ao35 t488.length co35, .int .i64 t491, .int .i64 0]) ?_ 3 _ rfl; (with_reducible repeat (first | refine blk_drewN ?_ _ | refine blk_drew ?_ | refine blk_alloc ?_ _)); refine blk_put (cs := #[.slice Ao30 t485.length co30, .slice Ao35 t488.length co35, .int .i64 0, .int .i64 0]) ?_ 2 _ rfl; (with_reducible repeat (first | refine blk_drewN ?_ _ | refine blk_drew ?_ | refine blk_alloc ?_ _)); refine blk_put (cs := #[.slice Ao30 t485.length co30, .slice none 0 0, .int .i64 0, .int .i64 0]) ?_ 1 _ rfl; (with_reducible repeat (first | refine blk_drewN ?_ _ | refine blk_drew ?_ | refine blk_alloc ?_ _)); refine blk_put (cs := #[.slice none 0 0, .slice none 0 0, .int .i64 0, .int .i64 0]) ?_ 0 _ rfl; (with_reducible repeat (first | refine blk_drewN ?_ _ | refine blk_drew ?_ | refine blk_alloc ?_ _)); exact BK473.out) Try.underlying31 rfl (by kernel_rfl)) rfl ?_
    exact ⟨_, _, _, by first | rfl | (simp [errW_none, errW_some] <;> rfl) | (simp [*, errW_none, errW_some] <;> rfl), by (with_reducible repeat (first | apply Kd.S_alloc | apply Kd.S_drewN | apply Kd.S_drew)); exact Kd.S_mono (Kd.S_far (p := ⟨gb473, 3, none⟩) (Kd.S_far (p := ⟨gb473, 2, none⟩) (Kd.S_far (p := ⟨gb473, 1, none⟩) (Kd.S_far (p := ⟨gb473, 0, none⟩) (Kd.S_types HO487.out BK473.out (by decide)) (fun _ hk => hk.2) (.slice Ao30 t485.length co30)) (fun _ hk => hk.2) (.slice Ao35 t488.length co35)) (fun _ hk => hk.2) (.int .i64 t491)) (fun _ hk => hk.2) (.int .i64 a3)) (fun _ hk => hk.1.2), by (with_reducible repeat (first | apply Kd.R_alloc | apply Kd.R_drewN | apply Kd.R_drew)); exact Kd.R_mono (Kd.R_far (p := ⟨gb473, 3, none⟩) (Kd.R_far (p := ⟨gb473, 2, none⟩) (Kd.R_far (p := ⟨gb473, 1, none⟩) (Kd.R_far (p := ⟨gb473, 0, none⟩) (Kd.R_types HO490.out BK473.out (by decide)) (fun _ hk => hk.2) (.slice Ao30 t485.length co30)) (fun _ hk => hk.2) (.slice Ao35 t488.length co35)) (fun _ hk => hk.2) (.int .i64 t491)) (fun _ hk => hk.2) (.int .i64 a3)) (fun _ hk => trivial), by (with_reducible repeat (first | apply Kd.R_alloc | apply Kd.R_drewN | apply Kd.R_drew)); exact Kd.R_mono (Kd.R_far (p := ⟨gb473, 3, none⟩) (Kd.R_far (p := ⟨gb473, 2, none⟩) (Kd.R_far (p := ⟨gb473, 1, none⟩) (Kd.R_far (p := ⟨gb473, 0, none⟩) (Kd.R_types HO496.out BK473.out (by decide)) (fun _ hk => hk.2) (.slice Ao30 t485.length co30)) (fun _ hk => hk.2) (.slice Ao35 t488.length co35)) (fun _ hk => hk.2) (.int .i64 t491)) (fun _ hk => hk.2) (.int .i64 a3)) (fun _ hk => trivial), by repeat (first | (with_reducible first | exact HB.out | apply below_alloc | apply pw_below_drewN | apply below_drew1 | refine below_set ?_ GE471.out | refine below_set ?_ GE472.out | refine below_set ?_ GE473.out | refine below_set ?_ GE493.out) | exact HB.out)⟩

/-! ### ladderbackref24_Off: function 19 -/
def ladderbackref24_Off.f (k : Nat) (l0 : List (S60)) (l1_0 : List (List Int)) (l1_1 : List (S69)) (a1_2 : Int) (a1_3 : Int) : Option (List Int) := (ladderbackref23_Area.f k l0 l1_0 l1_1 a1_2 a1_3 2).bind fun t498 => (if 0 ≤ (t498.length : Int) then (if ((t498.length : Int) : Int).toNat ≤ 35184372088832 then (some (List.replicate ((t498.length : Int) : Int).toNat 0)) else (none)) else (none))
set_option maxHeartbeats 8000000 in
set_option maxRecDepth 100000 in
theorem ladderbackref24_Off.calls (k : Nat) (A0 : Option Addr) (c0 : Nat) (l0 : List (S60)) (A1_0 : Option Addr) (c1_0 : Nat) (l1_0 : List (List Int)) (A1_1 : Option Addr) (c1_1 : Nat) (l1_1 : List (S69)) (a1_2 : Int) (a1_3 : Int) (r : List Int) (w : World) (hr0 : Kd.C k60 w A0 l0.length l0) (hc0 : l0.length ≤ c0) (hr1_0 : Kd.C (Kd.slice 3 (Kd.int .i64)) w A1_0 l1_0.length l1_0) (hc1_0 : l1_0.length ≤ c1_0) (hr1_1 : Kd.C k69 w A1_1 l1_1.length l1_1) (hc1_1 : l1_1.length ≤ c1_1) (h : ladderbackref24_Off.f k l0 l1_0 l1_1 a1_2 a1_3 = some r) :
    Calls Try.prog 19 #[.slice A0 l0.length c0, .agg #[.slice A1_0 l1_0.length c1_0, .slice A1_1 l1_1.length c1_1, .int .i64 a1_2, .int .i64 a1_3]] w fun e w' => ∃ v0_ : Value, e = .returned (v0_) ∧ Kd.R (Kd.int .i64) 3 w' w.heap.size (fun _ => True) v0_ r ∧ Below w.heap.size w w' := by
  have hu31 := Try.underlying31
  have HR0 := Aside0.mk hr0
  have HC0 := Aside0.mk hc0
  clear hr0 hc0
  have HR1_0 := Aside0.mk hr1_0
  have HC1_0 := Aside0.mk hc1_0
  clear hr1_0 hc1_0
  have HR1_1 := Aside0.mk hr1_1
  have HC1_1 := Aside0.mk hc1_1
  clear hr1_1 hc1_1
  have HB := Aside0.mk (Below.refl w.heap.size w)
  have H : ((ladderbackref23_Area.f k l0 l1_0 l1_1 a1_2 a1_3 2).bind fun t498 => (if 0 ≤ (t498.length : Int) then (if ((t498.length : Int) : Int).toNat ≤ 35184372088832 then (some (List.replicate ((t498.length : Int) : Int).toNat 0)) else (none)) else (none))) = some r := h
  clear h
  replace H := Option.bind_eq_some_iff.mp H
  obtain ⟨t498, A30, H⟩ := H
  replace H : (if 0 ≤ (t498.length : Int) then (if ((t498.length : Int) : Int).toNat ≤ 35184372088832 then (some (List.replicate ((t498.length : Int) : Int).toNat 0)) else (none)) else (none)) = some r := H
  have A3 := Aside0.mk A30
  clear A30
  by_cases c4 : 0 ≤ (t498.length : Int)
  · rw [if_pos c4] at H
    have c4b0 := eq_true c4
    have c4b1 : decide (0 ≤ (t498.length : Int)) = true := decide_eq_true c4
    clear c4
    by_cases c5 : ((t498.length : Int) : Int).toNat ≤ 35184372088832
    · rw [if_pos c5] at H
      have c5b0 := eq_true c5
      have c5b1 : decide (((t498.length : Int) : Int).toNat ≤ 35184372088832) = true := decide_eq_true c5
      clear c5
      obtain ⟨y501, hy501⟩ : ∃ y_ : List Int, y_ = (List.replicate ((t498.length : Int) : Int).toNat 0) := ⟨_, rfl⟩
      replace H : (some y501) = some r := by first | (rw [hy501]; with_reducible exact H) | (have H2_ := (Option.bind_some _ _).symm.trans H; rw [hy501]; with_reducible exact H2_) | (have H2_ := (Option.bind_some _ _).symm.trans H; with_reducible exact H2_) | with_reducible exact H | (rw [hy501]; exact H) | exact H
      have Ny501 := Aside0.mk hy501
      clear hy501
      obtain rfl := Option.some.inj H
      go_enter Try.func19, Try.ntmps19
      go_wp2_with (first | ((with_reducible refine gate_dst (N := 3) rfl ?_); refine box_event ?hg (N := 3) ?hd (cs := #[.slice A1_0 l1_0.length c1_0, .slice A1_1 l1_1.length c1_1, .int .i64 a1_2, .int .i64 a1_3]) (t := 31) ?hr ?_; (case hd => rfl); (case hg => rfl); (case hr => first | (go_simp; done) | (go_simp; rfl)); intro gb497 hg w6 hbox hb; have n0_ := Aside0.mk (below_step (by repeat (first | (with_reducible first | exact HB.out | apply below_alloc | apply pw_below_drewN | apply below_drew1) | exact HB.out)) hb); have n1_ := Aside0.mk (hbox); have n2_ := Aside0.mk ((by rw [hg]; exact (below_size (by repeat (first | (with_reducible first | exact HB.out | apply below_alloc | apply pw_below_drewN | apply below_drew1) | exact HB.out))) : w.heap.size ≤ gb497)); have n3_ := Aside0.mk ((by rw [hg]; exact (below_size (by repeat (first | (with_reducible first | exact HB.out | apply below_alloc | apply pw_below_drewN | apply below_drew1) | exact HB.out))) : w.heap.size ≤ gb497)); clear HB; have HB := n0_; have BK497 := n1_; have GW497 := n2_; have GE497 := n3_; clear n0_ n1_ n2_ n3_; clear hb hbox hg; have hcz7_0 : w6.cell? ⟨gb497, 0, none⟩ = some (.slice A1_0 l1_0.length c1_0) := (blk_cell BK497.out 0).trans rfl; have hcz7_1 : w6.cell? ⟨gb497, 1, none⟩ = some (.slice A1_1 l1_1.length c1_1) := (blk_cell BK497.out 1).trans rfl; have hcz7_2 : w6.cell? ⟨gb497, 2, none⟩ = some (.int .i64 a1_2) := (blk_cell BK497.out 2).trans rfl; have hcz7_3 : w6.cell? ⟨gb497, 3, none⟩ = some (.int .i64 a1_3) := (blk_cell BK497.out 3).trans rfl; have hfz7_0 := blk_frozen BK497.out 0; have hfz7_1 := blk_frozen BK497.out 1; have hfz7_2 := blk_frozen BK497.out 2; have hfz7_3 := blk_frozen BK497.out 3) | ((with_reducible refine gate_callee (f := 29) rfl ?_); refine goesL_ (some 7) rfl rfl Try.func29 (by kernel_rfl) rfl #[.slice A0 l0.length c0, .agg #[.slice A1_0 l1_0.length c1_0, .slice A1_1 l1_1.length c1_1, .int .i64 a1_2, .int .i64 a1_3], .int .i64 2] rfl (by (try simp only [List.map_toArray, List.map_cons, List.map_nil]); first | done | rfl | (simp only [List.length_drop, List.length_take]; rfl)) ?_; (with_reducible refine (ladderbackref23_Area.calls k _ _ l0 _ _ l1_0 _ _ l1_1 a1_2 a1_3 2 t498 _ ?side1 ?side2 ?side3 ?side4 ?side5 ?side6 A3.out).mono ?_); (case side1 => repeat (first | exact (Kd.C_below HR0.out HB.out) | (with_reducible refine Kd.C_alloc ?_ _) | (with_reducible refine Kd.C_drewN ?_ _) | (with_reducible refine Kd.C_drew ?_))); (case side2 => exact HC0.out); (case side3 => repeat (first | exact (Kd.C_below HR1_0.out HB.out) | (with_reducible refine Kd.C_alloc ?_ _) | (with_reducible refine Kd.C_drewN ?_ _) | (with_reducible refine Kd.C_drew ?_))); (case side4 => exact HC1_0.out); (case side5 => repeat (first | exact (Kd.C_below HR1_1.out HB.out) | (with_reducible refine Kd.C_alloc ?_ _) | (with_reducible refine Kd.C_drewN ?_ _) | (with_reducible refine Kd.C_drew ?_))); (case side6 => exact HC1_1.out); rintro e w8 ⟨v499, rfl, ho0, hb⟩; refine ⟨_, rfl, ?_⟩; have n0_ := Aside0.mk (Kd.R_lower ho0 (below_size (by repeat (first | (with_reducible first | exact HB.out | apply below_alloc | apply pw_below_drewN | apply below_drew1 | refine below_set ?_ GE497.out) | exact HB.out)))); have n1_ := Aside0.mk (blk_below (g := gb497) (o := .cells #[.slice A1_0 l1_0.length c1_0, .slice A1_1 l1_1.length c1_1, .int .i64 a1_2, .int .i64 a1_3] 31 (0, 0)) (by (with_reducible repeat (first | refine blk_drewN ?_ _ | refine blk_drew ?_ | refine blk_alloc ?_ _)); exact BK497.out) hb); have n2_ := Aside0.mk (below_step (by repeat (first | (with_reducible first | exact HB.out | apply below_alloc | apply pw_below_drewN | apply below_drew1 | refine below_set ?_ GE497.out) | exact HB.out)) hb); clear BK497; clear HB; have HO500 := n0_; have BK497 := n1_; have HB := n2_; clear n0_ n1_ n2_; (try clear hb); (try clear hb2); (try clear hk); (try clear hi); (try clear ho0); obtain ⟨Ao9, co9, eo9⟩ := Kd.R_slice HO500.out; subst eo9) | ((with_reducible refine gate_dst (N := 9) rfl ?_); refine Kd.R_make (Kd.int .i64) _ 3 rfl (N := 9) rfl 32 _ _ rfl (t498.length : Int) rfl rfl Try.underlying32 (.int .i64 0) 8 info3 rfl (by decide) (by omega) 0 (ok := fun _ => True) (okp := fun _ => True) rfl (fun _ hk => hk) trivial (of_decide_eq_true (by first | (with_reducible assumption) | assumption)) (Nat.le_trans (Nat.mul_le_mul_right _ (of_decide_eq_true (by first | (with_reducible assumption) | assumption) : (t498.length : Int).toNat ≤ 35184372088832)) (by omega)) (Below.refl _ _) (Nat.le_refl _) ?_; intro v502 w10 ho11 hb hg_ hnew_; clear hg_ hnew_; (first | rw [← Ny501.out] at ho11 | (simp only [Int.reduceToNat] at ho11; rw [← Ny501.out] at ho11)); have n0_ := Aside0.mk (Kd.R_elder' (by (with_reducible repeat (first | apply Kd.R_alloc | apply Kd.R_drewN | apply Kd.R_drew)); exact HO500.out) (Kd.R_base ho11) hb); have n1_ := Aside0.mk (Kd.R_lower (Kd.R_new' ho11 (Kd.R_lt (by (with_reducible repeat (first | apply Kd.R_alloc | apply Kd.R_drewN | apply Kd.R_drew)); exact HO500.out))) (below_size (by repeat (first | (with_reducible first | exact HB.out | apply below_alloc | apply pw_below_drewN | apply below_drew1 | refine below_set ?_ GE497.out) | exact HB.out)))); have n2_ := Aside0.mk (blk_below (g := gb497) (o := .cells #[.slice A1_0 l1_0.length c1_0, .slice A1_1 l1_1.length c1_1, .int .i64 a1_2, .int .i64 a1_3] 31 (0, 0)) (by (with_reducible repeat (first | refine blk_drewN ?_ _ | refine blk_drew ?_ | refine blk_alloc ?_ _)); exact BK497.out) hb); have n3_ := Aside0.mk (below_step (by repeat (first | (with_reducible first | exact HB.out | apply below_alloc | apply pw_below_drewN | apply below_drew1 | refine below_set ?_ GE497.out) | exact HB.out)) hb); clear HO500; clear BK497; clear HB; have HO500 := n0_; have HO503 := n1_; have BK497 := n2_; have HB := n3_; clear n0_ n1_ n2_ n3_; clear hb ho11))
      go_ret
      exact ⟨_, by first | rfl | (simp [errW_none, errW_some] <;> rfl) | (simp [*, errW_none, errW_some] <;> rfl), by (with_reducible repeat (first | apply Kd.R_alloc | apply Kd.R_drewN | apply Kd.R_drew)); exact Kd.R_mono HO503.out (fun _ hk => trivial), by repeat (first | (with_reducible first | exact HB.out | apply below_alloc | apply pw_below_drewN | apply below_drew1 | refine below_set ?_ GE497.out) | exact HB.out)⟩
    · rw [if_neg c5] at H
      exact absurd H (by simp)
  · rw [if_neg c4] at H
    exact absurd H (by simp)


end Go.Proofs.Ytamajfcjcfkkjaa.PSt
end

section
/- A scan's end: the contracts, and the document's End walked by hand. -/
namespace Go.Proofs.Ytamajfcjcfkkjaa
open Go Go.RowKit Go.Proofs.Ytamajfcjcfkkjaa.PSt Go.Proofs.Ytamajfcjcfkkjaa.RPure Go.Proofs.Ytamajfcjcfkkjaa.Given Go.Proofs.YtamajfcjcfkkjaaW.PrintWords Go.Proofs.YtamajfcjcfkkjaaW.PrintLast Go.Proofs.YtamajfcjcfkkjaaW.PrintMore
set_option linter.unusedVariables false
set_option linter.unusedSimpArgs false
namespace StE
open StW
/-- What a scan's end hands back. -/
def endF (v : LV) (V : LL) (B : LI) (n f : Int) (W : LL) (D : LI) (n2 f2 ft : Int) : LL × LI × Int × Int × List Int := if ft = 0 then (W, D, n2, f2, areaF v W 2) else (V, B, n, ft, List.replicate (areaF v V 2).length 0)
theorem cend_is (v : LV) (V : LL) (B : LI) (n f : Int) (W : LL) (D : LI) (n2 f2 ft : Int) (hv : v.length ≤ 70) (h1 : Sh V B) (h2 : Sh W D) : cycle_End.f 2000 v V B n f W D n2 f2 ft = some (endF v V B n f W D n2 f2 ft) := by
  unfold cycle_End.f endF
  split
  · rw [sclone_is W D n2 f2 h2 2000 (by decide), Option.bind_some, sarea_is v W D n2 f2 2 (by omega) h2.2.2 2000 (by omega), Option.bind_some]
  · rw [sclone_is V B n f h1 2000 (by decide), Option.bind_some]
    unfold cycle_Off.f
    rw [sarea_is v V B n f 2 (by omega) h1.2.2 2000 (by omega)]
    rfl
theorem coff_is (v : LV) (V : LL) (B : LI) (n f : Int) (hv : v.length ≤ 70) (h1 : Sh V B) : cycle_Off.f v V B n f = some (List.replicate (areaF v V 2).length 0) := by
  unfold cycle_Off.f
  rw [sarea_is v V B n f 2 (by omega) h1.2.2 2000 (by omega)]
  rfl
theorem roff_is (v : LV) (V : LL) (B : LI) (n f : Int) (hv : v.length ≤ 70) (h1 : Sh V B) : ladderbackref24_Off.f 20000 v V B n f = some (List.replicate (areaF v V 2).length 0) := by
  unfold ladderbackref24_Off.f
  have := area_len V 2 h1.2.2 v
  have hV := h1.1
  rw [rarea_is v V B n f 2 (by omega) h1.2.2 20000 (by omega), Option.bind_some, if_pos (by omega), if_pos (by omega)]
  rfl
section
variable {w : World} {A0 A1 A2 A3 A5 : Option Addr} {c0 c1 c2 c3 c5 : Nat} {v : LV} {V W : LL} {B D : LI} {n f n2 f2 ft : Int}
theorem end_c (gv : Kd.C k60 w A5 v.length v) (lv : v.length ≤ c5) (hv : v.length ≤ 70) (h : C w A0 c0 V A1 c1 B) (h2 : C w A2 c2 W A3 c3 D) (hs1 : Sh V B) (hs2 : Sh W D) {X : LL} {E : LI} {m g : Int} {r : List Int} (he : endF v V B n f W D n2 f2 ft = (X, E, m, g, r)) :
    Calls Try.prog 15 #[.slice A5 v.length c5, .agg (row A0 c0 V A1 c1 B n f), .agg (row A2 c2 W A3 c3 D n2 f2), .int .i64 ft] w fun e w' => ∃ Aa ca Ab cb Ac cc, e = .returned (.tuple #[.agg (row Aa ca X Ab cb E m g), .slice Ac r.length cc]) ∧ C w' Aa ca X Ab cb E ∧ Kd.C (Kd.int .i64) w' Ac r.length r ∧ r.length ≤ cc ∧ Below w.heap.size w w' :=
  (cycle_End.calls 2000 A5 c5 v A0 c0 V A1 c1 B n f A2 c2 W A3 c3 D n2 f2 ft X E m g r w gv lv h.g0 h.l0 h.g1 h.l1 h2.g0 h2.l0 h2.g1 h2.l1 (by rw [cend_is v V B n f W D n2 f2 ft hv hs1 hs2, he])).mono fun e w' ⟨v0, v1, v4, hr, h0, h1, h4, hb⟩ => by
    obtain ⟨Aa, ca, rfl, la, ga⟩ := Kd.S_reads h0
    obtain ⟨Ab, cb, rfl, lb, gb⟩ := Kd.R_reads h1
    obtain ⟨Ac, cc, rfl, lc, gc⟩ := Kd.R_reads h4
    exact ⟨Aa, ca, Ab, cb, Ac, cc, hr, ⟨ga, la, gb, lb⟩, gc, lc, hb⟩
end
set_option maxHeartbeats 4000000 in
set_option maxRecDepth 100000 in
theorem rend_w {wo : World} {A0 A1 A2 A3 A5 : Option Addr} {c0 c1 c2 c3 c5 : Nat} {v : LV} {V W : LL} {B D : LI} {n f n2 f2 ft : Int} (gv : Kd.C k60 wo A5 v.length v) (lv : v.length ≤ c5) (hv : v.length ≤ 70) (h : C wo A0 c0 V A1 c1 B) (h2 : C wo A2 c2 W A3 c3 D) (hs1 : Sh V B) (hs2 : Sh W D) {X : LL} {E : LI} {m g : Int} {r : List Int} (he : endF v V B n f W D n2 f2 ft = (X, E, m, g, r)) :
    Calls Try.prog 16 #[.slice A5 v.length c5, .agg (row A0 c0 V A1 c1 B n f), .agg (row A2 c2 W A3 c3 D n2 f2), .int .i64 ft] wo fun e w' => ∃ Aa ca Ab cb Ac cc, e = .returned (.tuple #[.agg (row Aa ca X Ab cb E m g), .slice Ac r.length cc]) ∧ C w' Aa ca X Ab cb E ∧ Kd.C (Kd.int .i64) w' Ac r.length r ∧ r.length ≤ cc ∧ Below wo.heap.size wo w' := by
  have hi4 : (Try.prog.info? 31).map (·.size) = some 4 := by kernel_rfl
  unfold endF at he
  by_cases hft : ft = 0
  · subst hft
    rw [if_pos rfl] at he
    simp only [Prod.mk.injEq] at he
    obtain ⟨rfl, rfl, rfl, rfl, rfl⟩ := he
    have AR := Aside0.mk (fun W_ (hb : Below wo.heap.size wo W_) => ladderbackref23_Area.calls 20000 A5 c5 v A2 c2 W A3 c3 D n2 f2 2 _ W_ (Kd.C_below gv hb) lv (Kd.C_below h2.g0 hb) h2.l0 (Kd.C_below h2.g1 hb) h2.l1 (rarea_is v W D n2 f2 2 (by omega) hs2.2.2 20000 (by omega)))
    have CC := Aside0.mk h2
    clear gv h h2
    unfold row
    go_enter Try.func16, Try.ntmps16
    go_wp2_with fail
    obtain ⟨W0, hW0, s0, hB0, H5, H6, H8⟩ := three wo (.cells #[.slice A0 V.length c0, .slice A1 B.length c1, .int .i64 n, .int .i64 f] 31) (.cells #[.slice A2 W.length c2, .slice A3 D.length c3, .int .i64 n2, .int .i64 f2] 31) (.cells #[.slice none 0 0, .slice none 0 0, .int .i64 0, .int .i64 0] 31)
    rw [← hW0]
    clear hW0 H5
    have HF := Aside0.mk (fun (b : Nat → Bool) (W_ : World) (hb4 : b 4 = false) (hz : Reg.Zc [(4, fun W_ => W_.heap[wo.heap.size + 2]? = some (.cells #[.slice A2 W.length c2, .slice A3 D.length c3, .int .i64 n2, .int .i64 f2] 31 (0, 0)))] (fun W_ => Below W0.heap.size W0 W_) b W_) => show Below W0.heap.size W0 W_ from by simp only [Reg.Zc, hb4, Bool.false_eq_true, if_false] at hz; exact hz)
    have hMZ : ∀ c ∈ ([(4, fun W_ => W_.heap[wo.heap.size + 2]? = some (.cells #[.slice A2 W.length c2, .slice A3 D.length c3, .int .i64 n2, .int .i64 f2] 31 (0, 0)))] : List (Nat × (World → Prop))), Reg.MonoZ c.2 := Reg.monoZ_cons ((fun _ _ hb h => (hb.block _ (blk_lt h)).trans h)) Reg.monoZ_nil
    have hM0 : Reg.MonoZ (fun W_ => Below W0.heap.size W0 W_) := (fun _ _ hb h => h.trans (hb.mono h.size))
    refine Reg.region_z [some 12, some 13, some 14, some 15, none, some 9] [0, 0, 0, 6, 15, 31] (true, [([], []), ([], []), ([], []), ([1, 2], [1, 2]), ([0, 3, 0], [0]), ([3, 4, 0, 1, 2, 3, 4], [3])]) (fun i => ([(fun _ v_ => v_ = (.agg #[.slice A2 W.length c2, .slice A3 D.length c3, .int .i64 n2, .int .i64 f2])), (fun _ v_ => v_ = (.slice A5 v.length c5)), (fun _ v_ => v_ = (.agg #[.slice A2 W.length c2, .slice A3 D.length c3, .int .i64 n2, .int .i64 f2])), (fun w_ v_ => Kd.R (Kd.int .i64) 3 w_ wo.heap.size (fun k_ => k_ ≠ wo.heap.size + 2) v_ (areaF v W 2)), (fun _ _ => True), (fun w_ v_ => Kd.R (Kd.int .i64) 3 w_ wo.heap.size (fun k_ => k_ ≠ wo.heap.size + 2) v_ (areaF v W 2))] : List (World → Value → Prop)).getD i (fun _ _ => False)) (Reg.Zc [(4, fun W_ => W_.heap[wo.heap.size + 2]? = some (.cells #[.slice A2 W.length c2, .slice A3 D.length c3, .int .i64 n2, .int .i64 f2] 31 (0, 0)))] (fun W_ => Below W0.heap.size W0 W_)) [wo.heap.size + 2] wo
        (by kernel_rfl) (by kernel_rfl) (by kernel_rfl) (by kernel_rfl) (by kernel_rfl) (by decide) (by rfl) (hB0) (Reg.Zc.drew (fun m => pw_below_drewN (Below.refl _ _) m)) (Reg.monoL_getD ?_) [0, 1, 2, 3, 4, 5] (by kernel_rfl) ?_ ?_ ?_
    · exact Reg.monoL_cons (Reg.monoL_eq _) (Reg.monoL_cons (Reg.monoL_eq _) (Reg.monoL_cons (Reg.monoL_eq _) (Reg.monoL_cons (Reg.monoL_R _ _ _ _ _ (fun k h => by simpa using h)) (Reg.monoL_cons (fun _ _ _ _ _ => trivial) (Reg.monoL_cons (Reg.monoL_R _ _ _ _ _ (fun k h => by simpa using h)) Reg.monoL_nil)))))
    · skip
      refine Reg.zs_cons (Reg.ZStep.of_f 4 hM0 hMZ (Reg.ne_chain (by rfl)) HF.out (by kernel_rfl) ?_) ?_
      · intro a w hF_ hb hs hel hon
        have e6 : a.tmps[6]? = some (.pointer (some ⟨wo.heap.size + 1, 0, none⟩)) := (hel 6 (by decide)).trans rfl
        obtain ⟨_, g6⟩ := Array.getElem?_eq_some_iff.1 e6
        refine ⟨_, rfl, fun K hK => ?_⟩
        have hq_ := (hF_.block _ (blk_lt H6)).trans H6
        have p0_ : w.cell? ⟨wo.heap.size + 1, 0, none⟩ = some (.slice A2 W.length c2) := (blk_cell hq_ 0).trans rfl
        have p1_ : w.cell? ⟨wo.heap.size + 1, 1, none⟩ = some (.slice A3 D.length c3) := (blk_cell hq_ 1).trans rfl
        have p2_ : w.cell? ⟨wo.heap.size + 1, 2, none⟩ = some (.int .i64 n2) := (blk_cell hq_ 2).trans rfl
        have p3_ : w.cell? ⟨wo.heap.size + 1, 3, none⟩ = some (.int .i64 f2) := (blk_cell hq_ 3).trans rfl
        refine value_ (w1 := w) (v := .agg #[.slice A2 W.length c2, .slice A3 D.length c3, .int .i64 n2, .int .i64 f2]) (by rfl) rfl ?_ (hK.out _ _ (Below.refl _ _) (rfl))
        · go_simp
          (try simp only [i64_w, g6])
          (try go_simp)
          try rfl
      refine Reg.zs_cons (Reg.ZStep.of_r hM0 hMZ (Reg.ne_chain (by rfl)) ?_) ?_
      · intro a w hb hs hel hon
        have e0 : a.tmps[0]? = some (.slice A5 v.length c5) := (hel 0 (by decide)).trans rfl
        obtain ⟨_, g0⟩ := Array.getElem?_eq_some_iff.1 e0
        refine ⟨_, rfl, fun K hK => ?_⟩
        refine value_ (w1 := w) (v := .slice A5 v.length c5) (by rfl) rfl ?_ (hK.out _ _ (Below.refl _ _) (rfl))
        · go_simp
          (try simp only [i64_w, g0])
          (try go_simp)
          try rfl
      refine Reg.zs_cons (Reg.ZStep.of_f 4 hM0 hMZ (Reg.ne_chain (by rfl)) HF.out (by kernel_rfl) ?_) ?_
      · intro a w hF_ hb hs hel hon
        have e6 : a.tmps[6]? = some (.pointer (some ⟨wo.heap.size + 1, 0, none⟩)) := (hel 6 (by decide)).trans rfl
        obtain ⟨_, g6⟩ := Array.getElem?_eq_some_iff.1 e6
        refine ⟨_, rfl, fun K hK => ?_⟩
        have hq_ := (hF_.block _ (blk_lt H6)).trans H6
        have p0_ : w.cell? ⟨wo.heap.size + 1, 0, none⟩ = some (.slice A2 W.length c2) := (blk_cell hq_ 0).trans rfl
        have p1_ : w.cell? ⟨wo.heap.size + 1, 1, none⟩ = some (.slice A3 D.length c3) := (blk_cell hq_ 1).trans rfl
        have p2_ : w.cell? ⟨wo.heap.size + 1, 2, none⟩ = some (.int .i64 n2) := (blk_cell hq_ 2).trans rfl
        have p3_ : w.cell? ⟨wo.heap.size + 1, 3, none⟩ = some (.int .i64 f2) := (blk_cell hq_ 3).trans rfl
        refine value_ (w1 := w) (v := .agg #[.slice A2 W.length c2, .slice A3 D.length c3, .int .i64 n2, .int .i64 f2]) (by rfl) rfl ?_ (hK.out _ _ (Below.refl _ _) (rfl))
        · go_simp
          (try simp only [i64_w, g6])
          (try go_simp)
          try rfl
      refine Reg.zs_cons (Reg.ZStep.of_f 4 hM0 hMZ (Reg.ne_chain (by rfl)) HF.out (by kernel_rfl) ?_) ?_
      · intro a w hF_ hb hs hel hon
        obtain ⟨_, e13, rfl⟩ := hon 1 13 (by kernel_rfl) rfl
        obtain ⟨_, e14, rfl⟩ := hon 2 14 (by kernel_rfl) rfl
        refine ⟨_, rfl, fun K hK => ?_⟩
        refine goes_ Try.func29 (by kernel_rfl) rfl #[.slice A5 v.length c5, .agg #[.slice A2 W.length c2, .slice A3 D.length c3, .int .i64 n2, .int .i64 f2], .int .i64 2] (by rfl) rfl rfl (by first | (simp only [List.map_toArray, List.map_cons, List.map_nil, Act.eval, Array.getD_eq_getD_getElem?, Option.getD_some, e13, e14]; done) | (simp only [List.map_toArray, List.map_cons, List.map_nil, Act.eval, Array.getD_eq_getD_getElem?, Option.getD_some, e13, e14]; rfl) | rfl) ?_
        refine (AR.out w hb).mono ?_
        rintro e w2 ⟨v0_, rfl, hR_, hb2⟩
        exact ⟨_, rfl, hK.out _ _ hb2 (Kd.R_lower (Kd.R_mono (Kd.R_bound hR_) (fun k_ hk_ => by have := hk_.2.1; have := hF_.size; omega)) hb.size)⟩
      refine Reg.zs_cons ?_ ?_
      · intro b a w hb hz hs hel hi hup hoff hon
        have hz1 := hz
        simp only [Reg.Zc, hi, Bool.false_eq_true, if_false, if_true] at hz1
        have e8 : a.tmps[8]? = some (.pointer (some ⟨wo.heap.size + 2, 0, none⟩)) := (hel 8 (by decide)).trans rfl
        obtain ⟨_, e12, rfl⟩ := hon 0 12 (by kernel_rfl) rfl
        refine ⟨_, rfl, fun K hK => ?_⟩
        rw [if_pos (by rfl)]
        have h8_ := (hz1.block _ (blk_lt H8)).trans H8
        exact wp_store_row 31 (.tmp 8) (.tmp 12) rfl (wo.heap.size + 2) _ (Reg.eval_tmp e8) (Reg.eval_tmp e12) 31 _ h8_ (by rw [hi4]; rfl) rfl (by kernel_rfl) (hK.out undef _ (below_setRow hb (by omega) _) ⟨by simp [World.setRow], fun i_ hi_ hn_ => setRow_other _ _ _ _ (fun e_ => hn_ (by rw [e_]; simp))⟩ (by simp only [Reg.Zc, up_self, if_true]; exact setRow_heap _ _ _ _ _ _ h8_) trivial)
      refine Reg.zs_cons (Reg.ZStep.of_r hM0 hMZ (Reg.ne_chain (by rfl)) ?_) ?_
      · intro a w hb hs hel hon
        obtain ⟨x15, e15, hR_3⟩ := hon 3 15 (by kernel_rfl) rfl
        obtain ⟨_, g15⟩ := Array.getElem?_eq_some_iff.1 e15
        refine ⟨_, rfl, fun K hK => ?_⟩
        refine value_ (w1 := w) (v := x15) (by rfl) rfl ?_ (hK.out _ _ (Below.refl _ _) (hR_3))
        · go_simp
          (try simp only [i64_w, g15])
          (try go_simp)
          try rfl
      exact Reg.zs_nil
    · intro a w hI
      rename_i K_ hK_
      refine hK_ a w ?_
      go_wp2
      have hz := hI.z
      simp only [Reg.Zc, if_true] at hz
      obtain ⟨x9, e9, hR9⟩ := hI.vals 5 9 rfl rfl
      obtain ⟨Ac, cc, rfl, lc, gc⟩ := Kd.R_reads hR9
      refine bodyPost_ret (results_ct rfl _ _ (wo.heap.size + 2) 31 #[.slice A2 W.length c2, .slice A3 D.length c3, .int .i64 n2, .int .i64 f2] (0, 0) _ (Reg.getD_of ((hI.elder 8 (by decide)).trans rfl)) hz Try.underlying31 rfl hi4) hI.defers ?_
      exact ⟨A2, c2, A3, c3, Ac, cc, by rw [Reg.getD_of e9], CC.out.below hI.below, gc, lc, hI.below⟩
    · intro b w hall h
      have hc := hall 4 (by kernel_rfl)
      unfold Reg.Zc at h ⊢
      rw [if_pos hc] at h
      rw [if_pos rfl]
      exact h
  · rw [if_neg hft] at he
    simp only [Prod.mk.injEq] at he
    obtain ⟨rfl, rfl, rfl, rfl, hr5⟩ := he
    have AR := Aside0.mk (fun W_ (hb : Below wo.heap.size wo W_) => ladderbackref24_Off.calls 20000 A5 c5 v A0 c0 V A1 c1 B n ft r W_ (Kd.C_below gv hb) lv (Kd.C_below h.g0 hb) h.l0 (Kd.C_below h.g1 hb) h.l1 (by rw [← hr5]; exact roff_is v V B n ft hv hs1))
    have CC := Aside0.mk h
    clear gv h h2 hr5
    unfold row
    go_enter Try.func16, Try.ntmps16
    go_wp2_with fail
    obtain ⟨W0, hW0, s0, hB0, H6, H5, H8⟩ := three wo (.cells #[.slice A0 V.length c0, .slice A1 B.length c1, .int .i64 n, .int .i64 ft] 31) (.cells #[.slice A2 W.length c2, .slice A3 D.length c3, .int .i64 n2, .int .i64 f2] 31) (.cells #[.slice none 0 0, .slice none 0 0, .int .i64 0, .int .i64 0] 31)
    rw [← hW0]
    clear hW0 H5
    have HF := Aside0.mk (fun (b : Nat → Bool) (W_ : World) (hb4 : b 4 = false) (hz : Reg.Zc [(4, fun W_ => W_.heap[wo.heap.size + 2]? = some (.cells #[.slice A0 V.length c0, .slice A1 B.length c1, .int .i64 n, .int .i64 ft] 31 (0, 0)))] (fun W_ => Below W0.heap.size W0 W_) b W_) => show Below W0.heap.size W0 W_ from by simp only [Reg.Zc, hb4, Bool.false_eq_true, if_false] at hz; exact hz)
    have hMZ : ∀ c ∈ ([(4, fun W_ => W_.heap[wo.heap.size + 2]? = some (.cells #[.slice A0 V.length c0, .slice A1 B.length c1, .int .i64 n, .int .i64 ft] 31 (0, 0)))] : List (Nat × (World → Prop))), Reg.MonoZ c.2 := Reg.monoZ_cons ((fun _ _ hb h => (hb.block _ (blk_lt h)).trans h)) Reg.monoZ_nil
    have hM0 : Reg.MonoZ (fun W_ => Below W0.heap.size W0 W_) := (fun _ _ hb h => h.trans (hb.mono h.size))
    refine Reg.region_z [some 18, some 19, some 20, some 21, none, some 9] [0, 0, 0, 6, 15, 31] (true, [([], []), ([], []), ([], []), ([1, 2], [1, 2]), ([0, 3, 0], [0]), ([3, 4, 0, 1, 2, 3, 4], [3])]) (fun i => ([(fun _ v_ => v_ = (.agg #[.slice A0 V.length c0, .slice A1 B.length c1, .int .i64 n, .int .i64 ft])), (fun _ v_ => v_ = (.slice A5 v.length c5)), (fun _ v_ => v_ = (.agg #[.slice A0 V.length c0, .slice A1 B.length c1, .int .i64 n, .int .i64 ft])), (fun w_ v_ => Kd.R (Kd.int .i64) 3 w_ wo.heap.size (fun k_ => k_ ≠ wo.heap.size + 2) v_ r), (fun _ _ => True), (fun w_ v_ => Kd.R (Kd.int .i64) 3 w_ wo.heap.size (fun k_ => k_ ≠ wo.heap.size + 2) v_ r)] : List (World → Value → Prop)).getD i (fun _ _ => False)) (Reg.Zc [(4, fun W_ => W_.heap[wo.heap.size + 2]? = some (.cells #[.slice A0 V.length c0, .slice A1 B.length c1, .int .i64 n, .int .i64 ft] 31 (0, 0)))] (fun W_ => Below W0.heap.size W0 W_)) [wo.heap.size + 2] wo
        (by kernel_rfl) (by kernel_rfl) (by kernel_rfl) (by kernel_rfl) (by kernel_rfl) (by decide) (by rfl) (hB0) (Reg.Zc.drew (fun m => pw_below_drewN (Below.refl _ _) m)) (Reg.monoL_getD ?_) [0, 1, 2, 3, 4, 5] (by kernel_rfl) ?_ ?_ ?_
    · exact Reg.monoL_cons (Reg.monoL_eq _) (Reg.monoL_cons (Reg.monoL_eq _) (Reg.monoL_cons (Reg.monoL_eq _) (Reg.monoL_cons (Reg.monoL_R _ _ _ _ _ (fun k h => by simpa using h)) (Reg.monoL_cons (fun _ _ _ _ _ => trivial) (Reg.monoL_cons (Reg.monoL_R _ _ _ _ _ (fun k h => by simpa using h)) Reg.monoL_nil)))))
    · skip
      refine Reg.zs_cons (Reg.ZStep.of_f 4 hM0 hMZ (Reg.ne_chain (by rfl)) HF.out (by kernel_rfl) ?_) ?_
      · intro a w hF_ hb hs hel hon
        have e5 : a.tmps[5]? = some (.pointer (some ⟨wo.heap.size, 0, none⟩)) := (hel 5 (by decide)).trans rfl
        obtain ⟨_, g5⟩ := Array.getElem?_eq_some_iff.1 e5
        refine ⟨_, rfl, fun K hK => ?_⟩
        have hq_ := (hF_.block _ (blk_lt H6)).trans H6
        have p0_ : w.cell? ⟨wo.heap.size, 0, none⟩ = some (.slice A0 V.length c0) := (blk_cell hq_ 0).trans rfl
        have p1_ : w.cell? ⟨wo.heap.size, 1, none⟩ = some (.slice A1 B.length c1) := (blk_cell hq_ 1).trans rfl
        have p2_ : w.cell? ⟨wo.heap.size, 2, none⟩ = some (.int .i64 n) := (blk_cell hq_ 2).trans rfl
        have p3_ : w.cell? ⟨wo.heap.size, 3, none⟩ = some (.int .i64 ft) := (blk_cell hq_ 3).trans rfl
        refine value_ (w1 := w) (v := .agg #[.slice A0 V.length c0, .slice A1 B.length c1, .int .i64 n, .int .i64 ft]) (by rfl) rfl ?_ (hK.out _ _ (Below.refl _ _) (rfl))
        · go_simp
          (try simp only [i64_w, g5])
          (try go_simp)
          try rfl
      refine Reg.zs_cons (Reg.ZStep.of_r hM0 hMZ (Reg.ne_chain (by rfl)) ?_) ?_
      · intro a w hb hs hel hon
        have e0 : a.tmps[0]? = some (.slice A5 v.length c5) := (hel 0 (by decide)).trans rfl
        obtain ⟨_, g0⟩ := Array.getElem?_eq_some_iff.1 e0
        refine ⟨_, rfl, fun K hK => ?_⟩
        refine value_ (w1 := w) (v := .slice A5 v.length c5) (by rfl) rfl ?_ (hK.out _ _ (Below.refl _ _) (rfl))
        · go_simp
          (try simp only [i64_w, g0])
          (try go_simp)
          try rfl
      refine Reg.zs_cons (Reg.ZStep.of_f 4 hM0 hMZ (Reg.ne_chain (by rfl)) HF.out (by kernel_rfl) ?_) ?_
      · intro a w hF_ hb hs hel hon
        have e5 : a.tmps[5]? = some (.pointer (some ⟨wo.heap.size, 0, none⟩)) := (hel 5 (by decide)).trans rfl
        obtain ⟨_, g5⟩ := Array.getElem?_eq_some_iff.1 e5
        refine ⟨_, rfl, fun K hK => ?_⟩
        have hq_ := (hF_.block _ (blk_lt H6)).trans H6
        have p0_ : w.cell? ⟨wo.heap.size, 0, none⟩ = some (.slice A0 V.length c0) := (blk_cell hq_ 0).trans rfl
        have p1_ : w.cell? ⟨wo.heap.size, 1, none⟩ = some (.slice A1 B.length c1) := (blk_cell hq_ 1).trans rfl
        have p2_ : w.cell? ⟨wo.heap.size, 2, none⟩ = some (.int .i64 n) := (blk_cell hq_ 2).trans rfl
        have p3_ : w.cell? ⟨wo.heap.size, 3, none⟩ = some (.int .i64 ft) := (blk_cell hq_ 3).trans rfl
        refine value_ (w1 := w) (v := .agg #[.slice A0 V.length c0, .slice A1 B.length c1, .int .i64 n, .int .i64 ft]) (by rfl) rfl ?_ (hK.out _ _ (Below.refl _ _) (rfl))
        · go_simp
          (try simp only [i64_w, g5])
          (try go_simp)
          try rfl
      refine Reg.zs_cons (Reg.ZStep.of_f 4 hM0 hMZ (Reg.ne_chain (by rfl)) HF.out (by kernel_rfl) ?_) ?_
      · intro a w hF_ hb hs hel hon
        obtain ⟨_, e19, rfl⟩ := hon 1 19 (by kernel_rfl) rfl
        obtain ⟨_, e20, rfl⟩ := hon 2 20 (by kernel_rfl) rfl
        refine ⟨_, rfl, fun K hK => ?_⟩
        refine goes_ Try.func19 (by kernel_rfl) rfl #[.slice A5 v.length c5, .agg #[.slice A0 V.length c0, .slice A1 B.length c1, .int .i64 n, .int .i64 ft]] (by rfl) rfl rfl (by first | (simp only [List.map_toArray, List.map_cons, List.map_nil, Act.eval, Array.getD_eq_getD_getElem?, Option.getD_some, e19, e20]; done) | (simp only [List.map_toArray, List.map_cons, List.map_nil, Act.eval, Array.getD_eq_getD_getElem?, Option.getD_some, e19, e20]; rfl) | rfl) ?_
        refine (AR.out w hb).mono ?_
        rintro e w2 ⟨v0_, rfl, hR_, hb2⟩
        exact ⟨_, rfl, hK.out _ _ hb2 (Kd.R_lower (Kd.R_mono (Kd.R_bound hR_) (fun k_ hk_ => by have := hk_.2.1; have := hF_.size; omega)) hb.size)⟩
      refine Reg.zs_cons ?_ ?_
      · intro b a w hb hz hs hel hi hup hoff hon
        have hz1 := hz
        simp only [Reg.Zc, hi, Bool.false_eq_true, if_false, if_true] at hz1
        have e8 : a.tmps[8]? = some (.pointer (some ⟨wo.heap.size + 2, 0, none⟩)) := (hel 8 (by decide)).trans rfl
        obtain ⟨_, e18, rfl⟩ := hon 0 18 (by kernel_rfl) rfl
        refine ⟨_, rfl, fun K hK => ?_⟩
        rw [if_pos (by rfl)]
        have h8_ := (hz1.block _ (blk_lt H8)).trans H8
        exact wp_store_row 31 (.tmp 8) (.tmp 18) rfl (wo.heap.size + 2) _ (Reg.eval_tmp e8) (Reg.eval_tmp e18) 31 _ h8_ (by rw [hi4]; rfl) rfl (by kernel_rfl) (hK.out undef _ (below_setRow hb (by omega) _) ⟨by simp [World.setRow], fun i_ hi_ hn_ => setRow_other _ _ _ _ (fun e_ => hn_ (by rw [e_]; simp))⟩ (by simp only [Reg.Zc, up_self, if_true]; exact setRow_heap _ _ _ _ _ _ h8_) trivial)
      refine Reg.zs_cons (Reg.ZStep.of_r hM0 hMZ (Reg.ne_chain (by rfl)) ?_) ?_
      · intro a w hb hs hel hon
        obtain ⟨x21, e21, hR_3⟩ := hon 3 21 (by kernel_rfl) rfl
        obtain ⟨_, g21⟩ := Array.getElem?_eq_some_iff.1 e21
        refine ⟨_, rfl, fun K hK => ?_⟩
        refine value_ (w1 := w) (v := x21) (by rfl) rfl ?_ (hK.out _ _ (Below.refl _ _) (hR_3))
        · go_simp
          (try simp only [i64_w, g21])
          (try go_simp)
          try rfl
      exact Reg.zs_nil
    · intro a w hI
      rename_i K_ hK_
      refine hK_ a w ?_
      go_wp2
      have hz := hI.z
      simp only [Reg.Zc, if_true] at hz
      obtain ⟨x9, e9, hR9⟩ := hI.vals 5 9 rfl rfl
      obtain ⟨Ac, cc, rfl, lc, gc⟩ := Kd.R_reads hR9
      refine bodyPost_ret (results_ct rfl _ _ (wo.heap.size + 2) 31 #[.slice A0 V.length c0, .slice A1 B.length c1, .int .i64 n, .int .i64 ft] (0, 0) _ (Reg.getD_of ((hI.elder 8 (by decide)).trans rfl)) hz Try.underlying31 rfl hi4) hI.defers ?_
      exact ⟨A0, c0, A1, c1, Ac, cc, by rw [Reg.getD_of e9], CC.out.below hI.below, gc, lc, hI.below⟩
    · intro b w hall h
      have hc := hall 4 (by kernel_rfl)
      unfold Reg.Zc at h ⊢
      rw [if_pos hc] at h
      rw [if_pos rfl]
      exact h
end StE
end Go.Proofs.Ytamajfcjcfkkjaa
end

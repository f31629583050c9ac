/- The law StackBelow holds for every input: the walk over its code shows that the call returns true and that what was read stays as it was; the row follows. The package-level tables that the code reads are tied to the program's text by the given tie. -/
import Derived.LaidLaws
import Derived.Lib.LaidTab
import Derived.OpenShut
import Derived.Test.YtmcgllcoadbnpaaDoorRows
import Derived.Test.YtmcgllcoadbnpaaDoorCards
import Derived.Test.YtmcgllcoadbnpaaDoorTie
import Derived.WalkKit
import Derived.ProofKit
import Derived.ShutString
import Derived.ChangeOld
import Derived.Below
import Derived.SizedLaws
import Derived.Deep.DeepHandedRow
import Derived.LaidMore
import Derived.Test.YtmcgllcoadbnpaaDoorZStackBelowaa
import Derived.Test.YtmcgllcoadbnpaaDoorZStackBelowah
import Derived.Test.YtmcgllcoadbnpaaDoorZStackBelowak
section
/- One instruction's effect on a stack, plainly: what the program's stack.Step answers; what lies below plays no part. -/
namespace Go.Proofs.YtmcgllcoadbnpaaDoor.RPure
open Go.RowKit Go.Proofs.YtmcgllcoadbnpaaDoor.PSk Go.Proofs.YtmcgllcoadbnpaaDoor.Given Go.Proofs.YtmcgllcoadbnpaaDoorW.PrintWords Go.Proofs.YtmcgllcoadbnpaaDoorW.PrintLast Go.Proofs.YtmcgllcoadbnpaaDoorW.PrintMore
set_option linter.unusedVariables false
set_option linter.unusedSimpArgs false
theorem shape4 (n : Nat) (hn : n < 38) : shapeA (n : Int) = 4 ↔ 8 ≤ n ∧ n ≤ 26 := by
  rw [shapeA_at n hn]
  have : ∀ m : Fin 38, opA.getD m.val 0 = 4 ↔ 8 ≤ m.val ∧ m.val ≤ 26 := by decide
  exact this ⟨n, hn⟩
theorem th_is (C : LC) (V : LV) (B : LB) (U : LU) (hU : Ok U) (u x y z : Int) (hx : isOp x = true) (hu0 : 0 ≤ u) (hu1 : u < (U.length : Int)) (hy : 0 ≤ y) :
    refs_there.f C V B U (rd_T43 U u).f0 (rd_T43 U u).f1 (rd_T43 U u).f2 (rd_T43 U u).f3 (rd_T43 U u).f4 x y z = some (thereF C V B U u x y z) := by
  obtain ⟨o1, o2, o3⟩ := ok_at hU u hu0 hu1
  unfold refs_there.f
  rw [if_pos ⟨hx, hy, o1, o2⟩]
  rfl
theorem one_is (C : LC) (V : LV) (B : LB) (U : LU) (hU : Ok U) (u x y z : Int) (k : Nat) (hk : 1 ≤ k) : refs_One.f k C V B U u x y z = some (oneF C V B U u x y z) := by
  obtain ⟨k, rfl⟩ : ∃ m, k = m + 1 := ⟨k - 1, by omega⟩
  unfold refs_One.f oneF
  by_cases h0 : u < 0
  · rw [if_pos h0, if_pos (.inl h0), refs_One.j0, if_pos rfl]
  rw [if_neg h0, refs_One.j0]
  by_cases h1 : (U.length : Int) ≤ u
  · rw [if_pos (decide_eq_true h1), if_pos (.inr h1)]
  rw [if_neg (show ¬ decide (u ≥ (U.length : Int)) = true by simpa using h1), if_neg (show ¬ (u < 0 ∨ (U.length : Int) ≤ u) by omega), right_is, Option.bind_some]
  by_cases h2 : rightF x y z = true
  · have h2' := h2
    unfold rightF at h2'
    simp only [Bool.and_eq_true] at h2'
    have hop := h2'.1.1
    have hy := may_nonneg h2'.1.2
    have hx : -9223372036854775808 ≤ x ∧ x ≤ 9223372036854775807 := by
      unfold isOp at hop
      simp only [Bool.and_eq_true, decide_eq_true_eq] at hop
      omega
    rw [if_pos h2, if_pos h2, typed_is x y z hx, Option.bind_some]
    by_cases h3 : typedF x y z = true
    · rw [if_pos h3, if_pos h3, if_pos (show 0 ≤ u by omega), if_pos (show u < (U.length : Int) by omega), th_is C V B U hU u x y z hop (by omega) (by omega) hy, Option.bind_some]
      split <;> rfl
    · rw [if_neg h3, if_neg h3]
  · rw [if_neg h2, if_neg h2]
theorem one_ok {C : LC} {V : LV} {B : LB} {U : LU} {u x y z : Int} (h : oneF C V B U u x y z = 0) : 0 ≤ u ∧ u < (U.length : Int) ∧ (∃ n : Nat, x = n ∧ n < 38) ∧ 0 ≤ y ∧ 0 ≤ z ∧ thereF C V B U u x y z = true := by
  unfold oneF at h
  split at h
  · omega
  · split at h
    · rename_i h0 h2
      split at h
      · split at h
        · rename_i h3 h4
          unfold rightF isOp at h2
          simp only [Bool.and_eq_true, decide_eq_true_eq] at h2
          exact ⟨by omega, by omega, ⟨x.toNat, by omega, by omega⟩, may_nonneg h2.1.2, may_nonneg h2.2, h4⟩
        · omega
      · omega
    · omega
theorem bin_is (x : Int) (h0 : 0 ≤ x) (h1 : x < 38) : alu_Binary.f x = some (decide (8 ≤ x ∧ x ≤ 25 ∧ x ≠ 13 ∧ x ≠ 17)) := by
  unfold alu_Binary.f
  by_cases a : x ≥ 8
  · rw [if_pos a, w64 _ (by omega) (by omega)]
    by_cases b : x - 8 < 18
    · rw [if_pos b]
      by_cases c : x = 13
      · rw [if_pos c, decide_eq_false (by omega)]
      · rw [if_neg c]
        by_cases d : x = 17
        · subst d; rfl
        · rw [decide_eq_true (by omega)]; simp [d]
    · rw [if_neg b, decide_eq_false (by omega)]
  · rw [if_neg a, decide_eq_false (by omega)]
/-- The type of what an operation leaves. -/
def resF (x t : Int) : Int := if goesOf x t = true then (if 20 ≤ x ∧ x ≤ 25 then 1 else t) else 0
theorem res_is (x t : Int) (h0 : 0 ≤ x) (h1 : x < 38) : alu_Result.f x t = some (resF x t) := by
  unfold alu_Result.f alu_Goes.f resF alu_compares.f
  rw [if_pos (by omega), Option.bind_some]
  cases goesOf x t with
  | false => rfl
  | true =>
    rw [if_pos rfl, if_pos rfl]
    by_cases a : x ≥ 20
    · rw [if_pos a, Option.bind_some]
      by_cases b : x ≤ 25
      · rw [if_pos (decide_eq_true b), if_pos ⟨a, b⟩]
      · rw [if_neg (by simpa using b), if_neg (by omega)]
    · rw [if_neg a, Option.bind_some, if_neg (by decide), if_neg (by omega)]
theorem stak_is (x y z : Int) (h0 : 0 ≤ x) (h1 : x < 38) : ∃ t l, stack_typed.f x y z = some (t, l) ∧ t.length ≤ 2 ∧ l.length ≤ 2 := by
  unfold stack_typed.f
  by_cases a : x = 26
  · rw [if_pos a]; exact ⟨_, _, rfl, by simp, by simp⟩
  · rw [if_neg a]
    by_cases b : x = 18 ∨ x = 19
    · rw [if_pos b]; exact ⟨_, _, rfl, by simp, by simp⟩
    · rw [if_neg b, bin_is x h0 h1, Option.bind_some]
      split
      · rw [res_is x y h0 h1, Option.bind_some]; exact ⟨_, _, rfl, by simp, by simp⟩
      · exact ⟨_, _, rfl, by simp, by simp⟩
theorem inputs_fields (t : Int) : inputsOf t ≤ fieldsOf t := by unfold inputsOf fieldsOf; (repeat' split) <;> omega
theorem eff_some {C : LC} {V : LV} {B : LB} {U : LU} (hU : Ok U) {u x y z : Int} (h : oneF C V B U u x y z = 0) :
    ∃ t l, stack_effect.f C V B U u x y z = some (t, l) ∧ t.length ≤ 20 ∧ l.length ≤ 2 ∧ (x = 27 → t = [0]) ∧ (x = 29 → t = [0, 0]) := by
  obtain ⟨hu0, hu1, ⟨n, rfl, hn⟩, hy, hz, ht⟩ := one_ok h
  obtain ⟨o1, o2, o3⟩ := ok_at hU u hu0 hu1
  have hs := shapeA_at n hn
  have h4 := shape4 n hn
  unfold stack_effect.f
  by_cases ty : 8 ≤ n ∧ n ≤ 26
  · rw [if_pos (h4.2 ty)]
    obtain ⟨t, l, e, h1, h2⟩ := stak_is (n : Int) y z (by omega) (by omega)
    exact ⟨t, l, e, by omega, h2, fun e => by omega, fun e => by omega⟩
  rw [if_neg (fun e => ty (h4.1 e))]
  unfold thereF at ht
  rw [hs] at ht
  clear h4 h
  rcases (by omega : n = 0 ∨ n = 1 ∨ n = 2 ∨ n = 3 ∨ n = 4 ∨ n = 5 ∨ n = 6 ∨ n = 7 ∨ n = 27 ∨ n = 28 ∨ n = 29 ∨ n = 30 ∨ n = 31 ∨ n = 32 ∨ n = 33 ∨ n = 34 ∨ n = 35 ∨ n = 36 ∨ n = 37) with rfl | rfl | rfl | rfl | rfl | rfl | rfl | rfl | rfl | rfl | rfl | rfl | rfl | rfl | rfl | rfl | rfl | rfl | rfl
  all_goals (try simp [opA] at ht)
  case inr.inr.inr.inr.inr.inr.inr.inr.inr.inr.inr.inr.inr.inr.inl =>
    have hp := (ok_at hU y hy ht.2).1
    simp [hy, ht, hp]
    split <;> exact ⟨_, _, ⟨rfl, rfl⟩, by omega, by simp⟩
  case inr.inr.inr.inr.inr.inr.inr.inr.inr.inr.inr.inr.inr.inr.inr.inr.inl =>
    have := inputs_fields (rd_T39 B y).f1
    have hz2 : z < fieldsOf (rd_T39 B y).f1 := by omega
    simp [stack_field.f, hy, ht, hz, hz2]
    exact ⟨_, _, ⟨rfl, rfl⟩, by simp, by simp⟩
  all_goals simp [hy, hz, ht, hu0, hu1, o1, o2, stack_field.f]
  all_goals first | done | exact ⟨_, _, ⟨rfl, rfl⟩, by simp, by simp⟩
/-- What is left, of the types on top. -/
def topF (x : Int) (top lv : List Int) : List Int := if x = 27 then [rd top 0, rd top 0] else if x = 29 then [rd top 1, rd top 0] else lv
/-- Are the types from i on as they are wanted? -/
def mat (t top : List Int) : Int → Nat → Bool
  | _, 0 => true
  | i, m + 1 => (rd t i == 0 || rd t i == rd top i) && mat t top (i + 1) m
def stepF (x : Int) (t lv st : List Int) : List Int × Int :=
  if st.length < t.length then ([], 9) else if x = 34 ∧ 0 < st.length then ([], 9) else
  if mat t (st.drop (st.length - t.length)) 0 t.length = true then (if 32 < st.length - t.length + (topF x (st.drop (st.length - t.length)) lv).length then ([], 9) else (st.take (st.length - t.length) ++ topF x (st.drop (st.length - t.length)) lv, 0)) else ([], 10)
theorem step_l0 (st lv t top : List Int) (low : Nat) (x y z : Int) (hst : st.length ≤ 1000) (hlow : low ≤ st.length) (htop : top.length = t.length) (hlv : lv.length ≤ 20) (h27 : x = 27 → t = [0]) (h29 : x = 29 → t = [0, 0]) :
    ∀ m i k : Nat, i + m = t.length → m + 1 ≤ k → t.length ≤ 1000 → stack_Step.l0 k st lv (low : Int) top t (t.length : Int) (i : Int) x y z = some (if mat t top (i : Int) m = true then (if 32 < low + (topF x top lv).length then ([], 9) else (st.take low ++ topF x top lv, 0)) else ([], 10)) := by
  intro m
  induction m with
  | zero =>
    intro i k h1 h2 ht
    obtain ⟨k, rfl⟩ : ∃ m, k = m + 1 := ⟨k - 1, by omega⟩
    rw [mat, if_pos rfl, stack_Step.l0, if_neg (by omega)]
    have fin : ∀ l : List Int, l.length ≤ 20 → (if (wrap64 ((low : Int) + (l.length : Int))) > 32 then (some (([] : List Int), (9 : Int))) else ((some (([] : List Int) : List Int)).bind fun y166 => (if 0 ≤ (low : Int) then (if (low : Int) ≤ (st.length : Int) then (if y166.length + (st.take ((low : Int) : Int).toNat).length < 17592186044416 then ((some (y166 ++ (st.take ((low : Int) : Int).toNat) : List Int)).bind fun y170 => (if y170.length + l.length < 17592186044416 then (some ((y170 ++ l), 0)) else (none))) else (none)) else (none)) else (none)))) = some (if 32 < low + l.length then ([], 9) else (st.take low ++ l, 0)) := fun l hl => by
      rw [w64 _ (by omega) (by omega)]
      by_cases c : 32 < low + l.length
      · rw [if_pos (by omega), if_pos c]
      · rw [if_neg (by omega), if_neg c, Option.bind_some, if_pos (by omega), if_pos (by omega), Int.toNat_natCast, if_pos (by simp only [List.length_nil, List.length_take]; omega), Option.bind_some, if_pos (by simp only [List.nil_append, List.length_take]; omega), List.nil_append]
    unfold topF
    by_cases a : x = 27
    · have := h27 a; subst this
      rw [if_pos a, if_pos a, if_pos (by simp [htop]), stack_of.f, Option.bind_some]
      exact fin _ (by simp)
    · rw [if_neg a, if_neg a]
      by_cases b : x = 29
      · have := h29 b; subst this
        rw [if_pos b, if_pos b, if_pos (by simp [htop]), if_pos (by simp [htop]), stack_of.f, Option.bind_some]
        exact fin _ (by simp)
      · rw [if_neg b, if_neg b]
        exact fin _ hlv
  | succ m ih =>
    intro i k h1 h2 ht
    obtain ⟨k, rfl⟩ : ∃ m, k = m + 1 := ⟨k - 1, by omega⟩
    have hi := ih (i + 1) k (by omega) (by omega) ht
    rw [show ((i + 1 : Nat) : Int) = (i : Int) + 1 by omega] at hi
    rw [mat, stack_Step.l0, if_pos (by omega), if_pos (by omega), if_pos (by omega), w64 _ (by omega) (by omega), hi]
    by_cases a : rd t (i : Int) = 0
    · rw [if_pos a, beq_iff_eq.2 a, Bool.true_or, Bool.true_and]
    · rw [if_neg a, if_pos (by omega), beq_eq_false_iff_ne.2 a, Bool.false_or]
      by_cases b : rd t (i : Int) = rd top (i : Int)
      · rw [if_pos b, beq_iff_eq.2 b, Bool.true_and]
      · rw [if_neg b, beq_eq_false_iff_ne.2 b, Bool.false_and]; rfl
theorem step_is (C : LC) (V : LV) (B : LB) (U : LU) (hU : Ok U) (u x y z : Int) (st : List Int) (hst : st.length ≤ 1000) (k : Nat) (hk : 30 ≤ k) :
    stack_Step.f k C V B U u x y z st = some (if oneF C V B U u x y z = 0 then (match stack_effect.f C V B U u x y z with | some (t, lv) => stepF x t lv st | none => ([], 0)) else ([], oneF C V B U u x y z)) := by
  unfold stack_Step.f
  rw [one_is C V B U hU u x y z k (by omega), Option.bind_some]
  by_cases h : oneF C V B U u x y z = 0
  · rw [if_pos h, if_pos h]
    obtain ⟨t, lv, e, h1, h2, h3, h4⟩ := eff_some hU h
    rw [e, Option.bind_some]
    simp only
    rw [w64 _ (by omega) (by omega)]
    obtain ⟨k, rfl⟩ : ∃ m, k = m + 1 := ⟨k - 1, by omega⟩
    unfold stepF
    by_cases a : st.length < t.length
    · rw [if_pos (by omega), if_pos a, stack_Step.j0, if_pos rfl]
    rw [if_neg (by omega), if_neg a]
    have main : stack_Step.j0 (k + 1) st t lv ((st.length : Int) - (t.length : Int)) false x y z = some (if mat t (st.drop (st.length - t.length)) 0 t.length = true then (if 32 < st.length - t.length + (topF x (st.drop (st.length - t.length)) lv).length then ([], 9) else (st.take (st.length - t.length) ++ topF x (st.drop (st.length - t.length)) lv, 0)) else ([], 10)) := by
      rw [stack_Step.j0, if_neg (by decide), if_pos (by omega), if_pos (by omega)]
      have := step_l0 st lv t (st.drop (st.length - t.length)) (st.length - t.length) x y z hst (by omega) (by simp; omega) (by omega) h3 h4 t.length 0 k (by omega) (by omega) (by omega)
      rw [show ((st.length - t.length : Nat) : Int) = (st.length : Int) - (t.length : Int) by omega] at this
      rw [show ((st.length : Int) - (t.length : Int)).toNat = st.length - t.length by omega]
      exact this
    by_cases b : x = 34
    · rw [if_pos b]
      by_cases c : 0 < st.length
      · rw [decide_eq_true (by omega), if_pos ⟨b, c⟩, stack_Step.j0, if_pos rfl]
      · rw [decide_eq_false (by omega), if_neg (fun e => c e.2), main]
    · rw [if_neg b, if_neg (fun e => b e.1), main]
  · rw [if_neg h, if_neg h]
theorem few15 (X : S43) : ∃ b, ladderbacklaw15_Few.f X.f0 X.f1 X.f2 X.f3 X.f4 = some b ∧ (b = true → X.f1.length ≤ 20 ∧ X.f3.length ≤ 1100 ∧ X.f4.length ≤ 300) := by
  unfold ladderbacklaw15_Few.f
  by_cases h1 : (X.f0.size : Int) ≤ 300
  · rw [if_pos h1]
    by_cases h2 : (X.f1.length : Int) ≤ 20
    · rw [if_pos h2]
      by_cases h3 : (X.f3.length : Int) ≤ 1100
      · rw [if_pos h3]
        exact ⟨_, rfl, fun h => by simp at h; omega⟩
      · rw [if_neg h3]; exact ⟨_, rfl, fun h => by cases h⟩
    · rw [if_neg h2]; exact ⟨_, rfl, fun h => by cases h⟩
  · rw [if_neg h1]; exact ⟨_, rfl, fun h => by cases h⟩
theorem rd_unit_at (U : LU) (j : Nat) (h : j < U.length) : rd_T43 U (j : Int) = U[j] := by
  unfold rd_T43
  rw [Int.toNat_natCast, List.getD_eq_getElem?_getD, List.getElem?_eq_getElem h]; rfl
theorem few_l2 (C : LC) (V : LV) (B : LB) (U : LU) (hl : U.length ≤ 10) : ∀ m j : Nat, j + m = U.length → ∃ b, (∀ k, m + 1 ≤ k → ladderbacklaw16_Few.l2 k (j : Int) C V B U = some b) ∧ (b = true → ∀ i (hi : i < U.length), j ≤ i → U[i].f1.length ≤ 20 ∧ U[i].f3.length ≤ 1100 ∧ U[i].f4.length ≤ 300) := by
  intro m
  induction m with
  | zero =>
    intro j hj
    refine ⟨true, fun k hk => ?_, fun _ i hi h => by omega⟩
    obtain ⟨k, rfl⟩ : ∃ m, k = m + 1 := ⟨k - 1, by omega⟩
    rw [ladderbacklaw16_Few.l2, if_neg (by omega)]
  | succ m ih =>
    intro j hj
    have hlt : j < U.length := by omega
    obtain ⟨b1, e1, f1⟩ := few15 U[j]
    obtain ⟨b2, e2, f2⟩ := ih (j + 1) (by omega)
    refine ⟨b1 && b2, fun k hk => ?_, fun h i hi hji => ?_⟩
    · obtain ⟨k, rfl⟩ : ∃ m, k = m + 1 := ⟨k - 1, by omega⟩
      rw [ladderbacklaw16_Few.l2, if_pos (by omega), if_pos (by omega), rd_unit_at U j hlt, e1, Option.bind_some]
      cases b1 with
      | true => rw [if_pos rfl, w64 _ (by omega) (by omega)]; exact e2 k (by omega)
      | false => rfl
    · rw [Bool.and_eq_true] at h
      rcases Nat.lt_or_ge j i with h1 | h1
      · exact f2 h.2 i hi h1
      · obtain rfl : i = j := by omega
        exact f1 h.1
theorem few_l1 (C : LC) (V : LV) (B : LB) (U : LU) (hl : U.length ≤ 10) (hB : B.length ≤ 40) : ∀ m j : Nat, j + m = B.length → ∃ b, (∀ k, m + 20 ≤ k → ladderbacklaw16_Few.l1 k (j : Int) C V B U = some b) ∧ (b = true → Ok U) := by
  intro m
  induction m with
  | zero =>
    intro j hj
    obtain ⟨b, e, f⟩ := few_l2 C V B U hl U.length 0 (by omega)
    refine ⟨b, fun k hk => ?_, fun h X hX => ?_⟩
    · obtain ⟨k, rfl⟩ : ∃ m, k = m + 1 := ⟨k - 1, by omega⟩
      rw [ladderbacklaw16_Few.l1, if_neg (by omega)]
      exact e k (by omega)
    · obtain ⟨i, hi, rfl⟩ := List.getElem_of_mem hX
      exact f h i hi (Nat.zero_le _)
  | succ m ih =>
    intro j hj
    obtain ⟨b2, e2, f2⟩ := ih (j + 1) (by omega)
    by_cases hs : (((rd_T39 B (j : Int)).f0).size : Int) > 300
    · refine ⟨false, fun k hk => ?_, fun h => by cases h⟩
      obtain ⟨k, rfl⟩ : ∃ m, k = m + 1 := ⟨k - 1, by omega⟩
      rw [ladderbacklaw16_Few.l1, if_pos (by omega), if_pos (by omega), if_pos hs]
    · refine ⟨b2, fun k hk => ?_, f2⟩
      obtain ⟨k, rfl⟩ : ∃ m, k = m + 1 := ⟨k - 1, by omega⟩
      rw [ladderbacklaw16_Few.l1, if_pos (by omega), if_pos (by omega), if_neg hs, w64 _ (by omega) (by omega)]
      exact e2 k (by omega)
theorem few_l0 (C : LC) (V : LV) (B : LB) (U : LU) (hl : U.length ≤ 10) (hB : B.length ≤ 40) (hV : V.length ≤ 70) : ∀ m j : Nat, j + m = V.length → ∃ b, (∀ k, m + 70 ≤ k → ladderbacklaw16_Few.l0 k (j : Int) C V B U = some b) ∧ (b = true → Ok U) := by
  intro m
  induction m with
  | zero =>
    intro j hj
    obtain ⟨b, e, f⟩ := few_l1 C V B U hl hB B.length 0 (by omega)
    refine ⟨b, fun k hk => ?_, f⟩
    obtain ⟨k, rfl⟩ : ∃ m, k = m + 1 := ⟨k - 1, by omega⟩
    rw [ladderbacklaw16_Few.l0, if_neg (by omega)]
    exact e k (by omega)
  | succ m ih =>
    intro j hj
    obtain ⟨b2, e2, f2⟩ := ih (j + 1) (by omega)
    by_cases hs : (((rd_T37 V (j : Int)).f0).size : Int) > 300
    · refine ⟨false, fun k hk => ?_, fun h => by cases h⟩
      obtain ⟨k, rfl⟩ : ∃ m, k = m + 1 := ⟨k - 1, by omega⟩
      rw [ladderbacklaw16_Few.l0, if_pos (by omega), if_pos (by omega), if_pos hs]
    · refine ⟨b2, fun k hk => ?_, f2⟩
      obtain ⟨k, rfl⟩ : ∃ m, k = m + 1 := ⟨k - 1, by omega⟩
      rw [ladderbacklaw16_Few.l0, if_pos (by omega), if_pos (by omega), if_neg hs, w64 _ (by omega) (by omega)]
      exact e2 k (by omega)
theorem few_is (C : LC) (V : LV) (B : LB) (U : LU) : ∃ b, (∀ k, 200 ≤ k → ladderbacklaw16_Few.f k C V B U = some b) ∧ (b = true → Ok U ∧ U.length ≤ 10) := by
  have hj : ∀ k, 1 ≤ k → ladderbacklaw16_Few.j0 k true C V B U = some false := fun k hk => by
    obtain ⟨k, rfl⟩ : ∃ m, k = m + 1 := ⟨k - 1, by omega⟩
    rw [ladderbacklaw16_Few.j0, if_pos rfl]
  by_cases h1 : (C.length : Int) > 60
  · exact ⟨false, fun k hk => by unfold ladderbacklaw16_Few.f; rw [if_pos h1]; exact hj k (by omega), fun h => by cases h⟩
  by_cases h2 : (V.length : Int) > 70
  · exact ⟨false, fun k hk => by unfold ladderbacklaw16_Few.f; rw [if_neg h1, if_pos h2]; exact hj k (by omega), fun h => by cases h⟩
  by_cases h3 : (B.length : Int) > 40
  · exact ⟨false, fun k hk => by unfold ladderbacklaw16_Few.f; rw [if_neg h1, if_neg h2, if_pos h3]; exact hj k (by omega), fun h => by cases h⟩
  by_cases h4 : (U.length : Int) > 10
  · exact ⟨false, fun k hk => by unfold ladderbacklaw16_Few.f; rw [if_neg h1, if_neg h2, if_neg h3, decide_eq_true h4]; exact hj k (by omega), fun h => by cases h⟩
  obtain ⟨b, e, f⟩ := few_l0 C V B U (by omega) (by omega) (by omega) V.length 0 (by omega)
  refine ⟨b, fun k hk => ?_, fun h => ⟨f h, by omega⟩⟩
  obtain ⟨k, rfl⟩ : ∃ m, k = m + 1 := ⟨k - 1, by omega⟩
  unfold ladderbacklaw16_Few.f
  rw [if_neg h1, if_neg h2, if_neg h3, decide_eq_false h4, ladderbacklaw16_Few.j0, if_neg (by decide)]
  exact e k (by omega)
theorem ints_l0 (a : List Int) (ha : a.length ≤ 1000) : ∀ m i k : Nat, i + m = a.length → m < k → ladderbackref15_Ints.l0 k a a (i : Int) = some true := by
  intro m
  induction m with
  | zero =>
    intro i k h1 h2
    obtain ⟨k, rfl⟩ : ∃ m, k = m + 1 := ⟨k - 1, by omega⟩
    rw [ladderbackref15_Ints.l0, if_neg (by omega)]
  | succ m ih =>
    intro i k h1 h2
    obtain ⟨k, rfl⟩ : ∃ m, k = m + 1 := ⟨k - 1, by omega⟩
    have := ih (i + 1) k (by omega) (by omega)
    rw [ladderbackref15_Ints.l0, if_pos (by omega), if_pos (by omega), if_pos (by omega), if_pos rfl, w64 _ (by omega) (by omega)]
    exact this
theorem ints_is (a b : List Int) (h : a = b) (ha : a.length ≤ 1000) (k : Nat) (hk : a.length < k) : ladderbackref15_Ints.f k a b = some true := by
  subst h
  unfold ladderbackref15_Ints.f
  rw [if_pos rfl]
  exact ints_l0 a ha a.length 0 k (by omega) hk
theorem stepF_nil (x : Int) (t lv st : List Int) (h : (stepF x t lv st).2 ≠ 0) : (stepF x t lv st).1 = [] := by
  unfold stepF at h ⊢
  (repeat' split) <;> simp_all
theorem stepF_below (x : Int) (t lv st low : List Int) (hx : x ≠ 34) (h1 : st.length ≤ 10) (h2 : low.length ≤ 10) (h3 : lv.length ≤ 2) (h : (stepF x t lv st).2 = 0) : stepF x t lv (low ++ st) = (low ++ (stepF x t lv st).1, 0) := by
  unfold stepF at h ⊢
  by_cases a : st.length < t.length
  · rw [if_pos a] at h; cases h
  rw [if_neg a, if_neg (fun e => hx e.1)] at h
  rw [if_neg (show ¬ (low ++ st).length < t.length by rw [List.length_append]; omega), if_neg (show ¬ (x = 34 ∧ 0 < (low ++ st).length) from fun e => hx e.1), if_neg a, if_neg (show ¬ (x = 34 ∧ 0 < st.length) from fun e => hx e.1)]
  have e1 : (low ++ st).length - t.length = low.length + (st.length - t.length) := by rw [List.length_append]; omega
  have e2 : (low ++ st).drop (low.length + (st.length - t.length)) = st.drop (st.length - t.length) := by rw [List.drop_append]; simp
  have e3 : (low ++ st).take (low.length + (st.length - t.length)) = low ++ st.take (st.length - t.length) := by rw [List.take_append, List.take_of_length_le (by omega)]; simp
  rw [e1, e2, e3]
  generalize st.drop (st.length - t.length) = top at h ⊢
  have hl : (topF x top lv).length ≤ 2 := by unfold topF; (repeat' split) <;> simp [h3]
  by_cases b : mat t top 0 t.length = true
  · rw [if_pos b] at h ⊢
    rw [if_neg (by omega), if_pos b, if_neg (by omega), List.append_assoc]
  · rw [if_neg b] at h; cases h
theorem awake_is : ladderbacklaw19_awake.f 999 = some true := by
  unfold ladderbacklaw19_awake.f
  rw [if_pos (by decide), step_is [] [] [] (List.replicate 1 z43) (fun X hX => by rw [List.eq_of_mem_replicate hX]; decide) 0 22 2 0 [6, 2, 2] (by decide) 999 (by decide)]
  decide +kernel
theorem StackBelow (C : LC) (V : LV) (B : LB) (U : LU) (x y z : Int) (st low : List Int) : ladderbacklaw19_StackBelow.f 1000 C V B U x y z st low = some true := by
  obtain ⟨b, e, f⟩ := few_is C V B U
  unfold ladderbacklaw19_StackBelow.f
  rw [e 1000 (by omega), Option.bind_some]
  have jt : ladderbacklaw19_StackBelow.j0 1000 low true C V B U x y z st = some true := by
    rw [ladderbacklaw19_StackBelow.j0, if_pos rfl, awake_is]; rfl
  cases b with
  | false => rw [if_neg (by decide)]; exact jt
  | true =>
    obtain ⟨hU, hn⟩ := f rfl
    rw [if_pos rfl]
    by_cases h1 : (st.length : Int) > 10
    · rw [if_pos h1]; exact jt
    rw [if_neg h1]
    by_cases h2 : (low.length : Int) > 10
    · rw [if_pos h2]; exact jt
    rw [if_neg h2]
    by_cases h3 : x = 34
    · rw [beq_iff_eq.2 h3]; exact jt
    rw [beq_eq_false_iff_ne.2 h3, ladderbacklaw19_StackBelow.j0, if_neg (by decide), step_is C V B U hU 0 x y z st (by omega) 999 (by omega), Option.bind_some]
    by_cases h4 : oneF C V B U 0 x y z = 0
    · rw [if_pos h4]
      obtain ⟨t, lv, ee, k1, k2, k3, k4⟩ := eff_some hU h4
      rw [ee]
      simp only
      by_cases h5 : (stepF x t lv st).2 = 0
      · have hl : (stepF x t lv st).1.length ≤ 40 := by
          unfold stepF
          (repeat' split) <;> simp only [List.length_nil, List.length_append, List.length_take] <;> omega
        rw [if_pos h5, Option.bind_some, if_pos (by simp only [List.length_nil]; omega), Option.bind_some, List.nil_append, if_pos (by omega), step_is C V B U hU 0 x y z (low ++ st) (by rw [List.length_append]; omega) 999 (by omega), Option.bind_some, if_pos h4, ee]
        simp only
        rw [stepF_below x t lv st low h3 (by omega) (by omega) k2 h5]
        simp only
        rw [if_pos trivial, Option.bind_some, if_pos (by simp only [List.length_nil]; omega), Option.bind_some, List.nil_append, if_pos (by omega), ints_is _ _ rfl (by rw [List.length_append]; omega) 999 (by rw [List.length_append]; omega), Option.bind_some, if_pos rfl, awake_is]
        rfl
      · rw [if_neg h5, stepF_nil x t lv st h5, if_pos (by simp), awake_is]; rfl
    · rw [if_neg h4]
      simp only
      rw [if_neg h4, if_pos (by simp), awake_is]; rfl
end Go.Proofs.YtmcgllcoadbnpaaDoor.RPure
end

section
/- What a package's variable that is laid as plain data has in its cells; numbers, truths, texts, structs and arrays alone. -/
namespace Go.Proofs.YtmcgllcoadbnpaaDoor.Flat
open Go Go.Lib Go.RowKit
mutual
/-- The cells that a datum of numbers, bools, texts, structs and arrays says. -/
def flatW {H : Type} : DataW H → Option (List Value)
  | .lit (.int k n) => some [.int k n]
  | .lit (.bool b) => some [.bool b]
  | .lit (.string s) => some [.string ⟨s.toArray⟩]
  | .agg ps => flatWs ps
  | _ => none
def flatWs {H : Type} : List (DataW H) → Option (List Value)
  | [] => some []
  | d :: r => (flatW d).bind fun a => (flatWs r).map (a ++ ·)
end
/-- Do a type's parts lie one behind the other, without a gap? -/
def tiles (P : Program) : Nat → TypeId → Bool
  | 0, _ => false
  | n + 1, t => match P.underlying t with
    | some .bool | some (.int _) | some .string => true
    | some (.struct fs) => fs.toList.foldl (fun o f => o.bind fun k => if f.offset = k ∧ tiles P n f.type = true then some (k + P.cellsOf f.type) else none) (some 0) == some (P.cellsOf t)
    | some (.array m e) => tiles P n e && P.cellsOf t == m * P.cellsOf e
    | _ => false
theorem foldl_none {α β : Type} (f : Option β → α → Option β) (h : ∀ a, f none a = none) : ∀ l : List α, l.foldl f none = none
  | [] => rfl
  | a :: l => by rw [List.foldl_cons, h, foldl_none f h l]
theorem flat_cells {H : Type} {enc : TypeId × Value → H} {P : Program} {w : World} {base : Nat} {sp : Nat → Bool} {held : Bool} :
    ∀ (n fuel : Nat) (t : TypeId) (cs : List Value) (d : DataW H) (ps : List MemPlace) (vs : List Value), tiles P n t = true → DataW.trod enc P w base sp held fuel t cs = some (d, ps) → flatW d = some vs → cs = vs := by
  intro n
  induction n with
  | zero => intro fuel t cs d ps vs ht; simp [tiles] at ht
  | succ n ih =>
    intro fuel t cs d ps vs ht h hf
    cases fuel with
    | zero => simp [DataW.trod] at h
    | succ fuel =>
      cases hu : P.underlying t with
      | none => simp [tiles, hu] at ht
      | some u =>
        cases u with
        | bool =>
          unfold DataW.trod at h; rw [hu] at h
          split at h <;> simp_all
          obtain ⟨rfl, _⟩ := h
          simp [flatW] at hf; exact hf
        | int k =>
          unfold DataW.trod at h; rw [hu] at h
          split at h <;> simp_all
          obtain ⟨⟨rfl, _⟩, rfl, _⟩ := h
          simp [flatW] at hf; exact hf
        | string =>
          unfold DataW.trod at h; rw [hu] at h
          split at h <;> simp_all
          obtain ⟨_, rfl, _⟩ := h
          simp [flatW] at hf; exact hf
        | struct fs =>
          simp only [tiles, hu, beq_iff_eq] at ht
          unfold DataW.trod at h; rw [hu] at h
          simp only at h
          split at h
          · rename_i hl
            obtain ⟨xs, hm, hx⟩ := Option.map_eq_some_iff.1 h
            simp only [Prod.mk.injEq] at hx
            obtain ⟨rfl, _⟩ := hx
            have key : ∀ (fs : List Field) (k : Nat) (xs : List (DataW H × List MemPlace)) (vs : List Value), k ≤ cs.length → fs.mapM (fun f => DataW.trod enc P w base sp held fuel f.type ((cs.drop f.offset).take (P.cellsOf f.type))) = some xs →
                fs.foldl (fun o f => o.bind fun k => if f.offset = k ∧ tiles P n f.type = true then some (k + P.cellsOf f.type) else none) (some k) = some cs.length → flatWs (xs.map (·.1)) = some vs → cs.drop k = vs := by
              intro fs
              induction fs with
              | nil =>
                intro k xs vs hk hm ht hf
                simp at hm; subst hm
                simp [flatWs] at hf; subst hf
                simp at ht; simp; omega
              | cons f fs ihf =>
                intro k xs vs hk hm ht hf
                simp only [List.mapM_cons, Option.bind_eq_bind, Option.bind_eq_some_iff, Option.pure_def, Option.some.injEq] at hm
                obtain ⟨b, hb, r, hr, rfl⟩ := hm
                simp only [List.foldl_cons, Option.bind_some] at ht
                split at ht
                · rename_i hc
                  obtain ⟨hc1, hc2⟩ := hc
                  simp only [List.map_cons, flatWs, Option.bind_eq_some_iff, Option.map_eq_some_iff] at hf
                  obtain ⟨a, ha, s, hs, rfl⟩ := hf
                  have e1 := ih _ _ _ b.1 b.2 a hc2 (by rw [hb]) ha
                  rw [hc1] at e1
                  have hle : k + P.cellsOf f.type ≤ cs.length := by
                    have mono : ∀ (l : List Field) (k m : Nat), l.foldl (fun o f => o.bind fun k => if f.offset = k ∧ tiles P n f.type = true then some (k + P.cellsOf f.type) else none) (some k) = some m → k ≤ m := by
                      intro l
                      induction l with
                      | nil => intro k m h; simp at h; omega
                      | cons g l ihl =>
                        intro k m h
                        simp only [List.foldl_cons, Option.bind_some] at h
                        split at h
                        · have := ihl _ _ h; omega
                        · rw [foldl_none _ (fun _ => rfl)] at h; cases h
                    exact mono _ _ _ ht
                  have e2 := ihf _ _ _ hle hr ht hs
                  rw [← e1, ← e2, ← List.drop_drop, List.take_append_drop]
                · rw [foldl_none _ (fun _ => rfl)] at ht; cases ht
            have := key fs.toList 0 xs vs (Nat.zero_le _) hm (by rw [ht, hl]) (by simpa [flatW] using hf)
            simpa using this
          · cases h
        | array m e =>
          simp only [tiles, hu, Bool.and_eq_true, beq_iff_eq] at ht
          obtain ⟨ht1, ht2⟩ := ht
          unfold DataW.trod at h; rw [hu] at h
          simp only at h
          split at h
          · rename_i hl
            obtain ⟨xs, hm, hx⟩ := Option.map_eq_some_iff.1 h
            simp only [Prod.mk.injEq] at hx
            obtain ⟨rfl, _⟩ := hx
            have key : ∀ (j k : Nat) (xs : List (DataW H × List MemPlace)) (vs : List Value), k + j = m → (List.range' k j).mapM (fun i => DataW.trod enc P w base sp held fuel e ((cs.drop (i * P.cellsOf e)).take (P.cellsOf e))) = some xs → flatWs (xs.map (·.1)) = some vs → cs.drop (k * P.cellsOf e) = vs := by
              intro j
              induction j with
              | zero =>
                intro k xs vs hk hm hf
                simp at hm; subst hm
                simp [flatWs] at hf; subst hf
                have hkm : k = m := by omega
                subst hkm
                rw [← ht2, ← hl]; simp
              | succ j ihj =>
                intro k xs vs hk hm hf
                simp only [List.range'_succ, List.mapM_cons, Option.bind_eq_bind, Option.bind_eq_some_iff, Option.pure_def, Option.some.injEq] at hm
                obtain ⟨b, hb, r, hr, rfl⟩ := hm
                simp only [List.map_cons, flatWs, Option.bind_eq_some_iff, Option.map_eq_some_iff] at hf
                obtain ⟨a, ha, s, hs, rfl⟩ := hf
                have e1 := ih _ _ _ b.1 b.2 a ht1 (by rw [hb]) ha
                have e2 := ihj (k + 1) _ _ (by omega) hr hs
                rw [← e1, ← e2, Nat.add_mul, Nat.one_mul, ← List.drop_drop, List.take_append_drop]
            have := key m 0 xs vs (by omega) (by rw [← List.range_eq_range']; exact hm) (by simpa [flatW] using hf)
            simpa using this
          · cases h
        | _ => simp [tiles, hu] at ht
/-- The variable holds these cells. -/
def VarIs (P : Program) (w : World) (name : String) (vs : List Value) : Prop := w.var? P name = some vs.toArray
theorem varIs_of_laid {P : Program} {W : World} {name : String} {D : DataW Unit} {vs : List Value} {g : Nat} {t : TypeId} (n : Nat)
    (hg : P.globalNamed name = some g) (hty : (P.globals[g]?).map (·.type) = some t) (ht : tiles P n t = true) (hf : flatW D = some vs) :
    ∀ {l : List (String × DataW Unit)} {ps : List MemPlace}, (name, D) ∈ l → DataW.LaidVars P W l ps → VarIs P W name vs := by
  intro l
  induction l with
  | nil => intro ps h; cases h
  | cons x l ih =>
    intro ps hm h
    obtain ⟨nm, E⟩ := x
    obtain ⟨g', t', cs, fuel, p, q, hg', ht', hvar, hd, hr, _⟩ := h
    rcases List.mem_cons.1 hm with h | h
    · injection h with h1 h2
      subst h1 h2
      obtain rfl := Option.some.inj (hg.symm.trans hg')
      obtain rfl := Option.some.inj (hty.symm.trans ht')
      unfold VarIs
      rw [hvar, ← flat_cells n _ _ _ _ _ _ ht hd hf]
    · exact ih h hr
theorem varIs {P : Program} {W : World} {name : String} {D : DataW Unit} {vs : List Value} {g : Nat} {t : TypeId} {l : List (String × DataW Unit)} (n : Nat)
    (h : laidMetH P l W) (hp : (l.filter fun x => x.2.handleName?.isSome) = []) (hm : (name, D) ∈ l)
    (hg : P.globalNamed name = some g) (hty : (P.globals[g]?).map (·.type) = some t) (ht : tiles P n t = true) (hf : flatW D = some vs) : VarIs P W name vs := by
  unfold laidMetH at h
  rw [hp] at h
  obtain ⟨ps, h, _⟩ := h
  exact varIs_of_laid n hg hty ht hf hm h
theorem VarIs.cell {P : Program} {W : World} {name : String} {vs : List Value} {g : Nat} (h : VarIs P W name vs) (hg : P.globalNamed name = some g) (i : Nat) : W.cell? ⟨g, i, none⟩ = vs[i]? := by
  rw [World.var?_cell hg h i]; simp
end Go.Proofs.YtmcgllcoadbnpaaDoor.Flat
end

section
/- StackBelow over programs that are read as data; the tables as the program lays them. -/
namespace Go.Proofs.YtmcgllcoadbnpaaDoor
open Go Go.RowKit Go.Proofs.YtmcgllcoadbnpaaDoorW.PrintWords Go.Proofs.YtmcgllcoadbnpaaDoor.PSk Go.Proofs.YtmcgllcoadbnpaaDoor.Given
set_option linter.unusedVariables false
namespace SkRow
theorem laidOps_of {l : List (String × DataW Unit)} {w : World} (h : laidMetH Tryd.prog l w) (hp : (l.filter fun x => x.2.handleName?.isSome) = []) (hm : ("ladderback/op.rows", Rows.laid_ladderback_op_rows) ∈ l) : LaidOps w := by
  have hv := Flat.varIs (name := "ladderback/op.rows") (D := Rows.laid_ladderback_op_rows) (vs := opsV) (g := 0) (t := 78) 6 h hp hm (by kernel_rfl) (by kernel_rfl) (by kernel_rfl) (by rfl)
  intro i v hi
  rw [hv.cell (by kernel_rfl), hi]
theorem laidGoes_of {l : List (String × DataW Unit)} {w : World} (h : laidMetH Tryd.prog l w) (hp : (l.filter fun x => x.2.handleName?.isSome) = []) (hm : ("ladderback/alu.goes", Rows.laid_ladderback_alu_goes) ∈ l) : LaidGoes w := by
  have hv := Flat.varIs (name := "ladderback/alu.goes") (D := Rows.laid_ladderback_alu_goes) (vs := nums .i64 goesV) (g := 1) (t := 79) 6 h hp hm (by kernel_rfl) (by kernel_rfl) (by kernel_rfl) (by rfl)
  intro i v hi
  rw [hv.cell (by kernel_rfl), hi]
set_option maxRecDepth 100000 in
theorem laidBlk_of {l : List (String × DataW Unit)} {w : World} (h : laidMetH Tryd.prog l w) (hp : (l.filter fun x => x.2.handleName?.isSome) = []) (hm : ("ladderback/block.rows", Rows.laid_ladderback_block_rows) ∈ l) : LaidBlk w := by
  have hv := Flat.varIs (name := "ladderback/block.rows") (D := Rows.laid_ladderback_block_rows) (vs := blkV) (g := 2) (t := 88) 8 h hp hm (by kernel_rfl) (by kernel_rfl) (by kernel_rfl) (by rfl)
  intro i v hi
  rw [hv.cell (by kernel_rfl), hi]
theorem laid_of {l : List (String × DataW Unit)} {w : World} (h : laidMetH Tryd.prog l w) (hp : (l.filter fun x => x.2.handleName?.isSome) = []) (h1 : ("ladderback/op.rows", Rows.laid_ladderback_op_rows) ∈ l) (h2 : ("ladderback/alu.goes", Rows.laid_ladderback_alu_goes) ∈ l) (h3 : ("ladderback/block.rows", Rows.laid_ladderback_block_rows) ∈ l) : LaidAll w :=
  ⟨laidOps_of h hp h1, laidGoes_of h hp h2, laidBlk_of h hp h3⟩
theorem rd_int : Bridge.Rdga Tryd.prog 3 (Kd.int .i64) (fun a => (Lit.int .i64 a).wf = true) := Bridge.Rdg.int Tryd.underlying3 (by kernel_rfl)
theorem rd_ints : Bridge.Rdga Tryd.prog 40 (Kd.slice 3 (Kd.int .i64)) (fun l => ∀ a ∈ l, (Lit.int .i64 a).wf = true) := Bridge.Rdg.slicea Tryd.underlying40 (by kernel_rfl) rd_int
theorem rd_str : Bridge.Rdga Tryd.prog 9 Kd.string (fun s => s.size ≤ 9223372036854775807) := Bridge.Rdg.string Tryd.underlying9 (by kernel_rfl)
theorem rd_instr : Bridge.Rdga Tryd.prog 29 k29 (fun _ => True) := fun m =>
  Bridge.Rdg.imp (Bridge.Rdg.iso (fun x : S29 => (x.f0, x.f1, x.f2)) (fun p => ⟨p.1, p.2.1, p.2.2⟩) (fun _ => rfl)
    (Bridge.Rdg.structa Tryd.underlying29 (by kernel_rfl) (fun m => Bridge.RdgF.cons rfl (rd_int m) (Bridge.RdgF.cons rfl (rd_int m) (Bridge.RdgF.one rfl (rd_int m)))) m)) (fun _ _ => trivial)
theorem rd_const : Bridge.Rdga Tryd.prog 35 k35 (fun _ => True) := fun m =>
  Bridge.Rdg.imp (Bridge.Rdg.iso (fun x : S35 => (x.f0, x.f1)) (fun p => ⟨p.1, p.2⟩) (fun _ => rfl)
    (Bridge.Rdg.structa Tryd.underlying35 (by kernel_rfl) (fun m => Bridge.RdgF.cons rfl (rd_int m) (Bridge.RdgF.one rfl (rd_int m))) m)) (fun _ _ => trivial)
theorem rd_var : Bridge.Rdga Tryd.prog 37 k37 (fun _ => True) := fun m =>
  Bridge.Rdg.imp (Bridge.Rdg.iso (fun x : S37 => (x.f0, x.f1, x.f2, x.f3, x.f4)) (fun p => ⟨p.1, p.2.1, p.2.2.1, p.2.2.2.1, p.2.2.2.2⟩) (fun _ => rfl)
    (Bridge.Rdg.structa Tryd.underlying37 (by kernel_rfl) (fun m => Bridge.RdgF.cons rfl (rd_str m) (Bridge.RdgF.cons rfl (rd_int m) (Bridge.RdgF.cons rfl (rd_int m) (Bridge.RdgF.cons rfl (rd_int m) (Bridge.RdgF.one rfl (rd_int m)))))) m)) (fun _ _ => trivial)
theorem rd_block : Bridge.Rdga Tryd.prog 39 k39 (fun _ => True) := fun m =>
  Bridge.Rdg.imp (Bridge.Rdg.iso (fun x : S39 => (x.f0, x.f1)) (fun p => ⟨p.1, p.2⟩) (fun _ => rfl)
    (Bridge.Rdg.structa Tryd.underlying39 (by kernel_rfl) (fun m => Bridge.RdgF.cons rfl (rd_str m) (Bridge.RdgF.one rfl (rd_int m))) m)) (fun _ _ => trivial)
theorem rd_instrs : Bridge.Rdga Tryd.prog 41 (Kd.slice 29 k29) (fun l => ∀ a ∈ l, True) := Bridge.Rdg.slicea Tryd.underlying41 (by kernel_rfl) rd_instr
theorem rd_unit : Bridge.Rdga Tryd.prog 43 k43 (fun _ => True) := fun m =>
  Bridge.Rdg.imp (Bridge.Rdg.iso (fun x : S43 => (x.f0, x.f1, x.f2, x.f3, x.f4)) (fun p => ⟨p.1, p.2.1, p.2.2.1, p.2.2.2.1, p.2.2.2.2⟩) (fun _ => rfl)
    (Bridge.Rdg.structa Tryd.underlying43 (by kernel_rfl) (fun m => Bridge.RdgF.cons rfl (rd_str m) (Bridge.RdgF.cons rfl (rd_ints m) (Bridge.RdgF.cons rfl (rd_int m) (Bridge.RdgF.cons rfl (rd_ints m) (Bridge.RdgF.one rfl (rd_instrs m)))))) m)) (fun _ _ => trivial)
/-- A program as data: its constants, variables, blocks, units. -/
def KProg : Kd (List S35 × List S37 × List S39 × List S43) := Kd.pair (Kd.slice 35 k35) (Kd.pair (Kd.slice 37 k37) (Kd.pair (Kd.slice 39 k39) (Kd.slice 43 k43)))
theorem rd_prog : Bridge.Rdga Tryd.prog 27 KProg (fun _ => True) := fun m => Bridge.Rdg.imp ((Bridge.Rdg.structa Tryd.underlying27 (by kernel_rfl) (fun m => Bridge.RdgF.cons rfl (Bridge.Rdg.slicea Tryd.underlying22 (by kernel_rfl) rd_const m) (Bridge.RdgF.cons rfl (Bridge.Rdg.slicea Tryd.underlying23 (by kernel_rfl) rd_var m) (Bridge.RdgF.cons rfl (Bridge.Rdg.slicea Tryd.underlying24 (by kernel_rfl) rd_block m) (Bridge.RdgF.one rfl (Bridge.Rdg.slicea Tryd.underlying25 (by kernel_rfl) rd_unit m)))))) m) (fun _ _ => trivial)
theorem prog_of {w : World} {x : List S35 × List S37 × List S39 × List S43} {cs : Array Value} (h : KProg.K w x cs.toList) : ∃ A0 c0 A1 c1 A2 c2 A3 c3, cs = #[.slice A0 x.1.length c0, .slice A1 x.2.1.length c1, .slice A2 x.2.2.1.length c2, .slice A3 x.2.2.2.length c3] ∧ (Kd.C k35 w A0 x.1.length x.1 ∧ x.1.length ≤ c0) ∧ (Kd.C k37 w A1 x.2.1.length x.2.1 ∧ x.2.1.length ≤ c1) ∧ (Kd.C k39 w A2 x.2.2.1.length x.2.2.1 ∧ x.2.2.1.length ≤ c2) ∧ (Kd.C k43 w A3 x.2.2.2.length x.2.2.2 ∧ x.2.2.2.length ≤ c3) := by
  obtain ⟨C, V, B, U⟩ := x
  obtain ⟨_, _, h0, ⟨A0, c0, rfl, l0, g0⟩, _, _, rfl, ⟨A1, c1, rfl, l1, g1⟩, _, _, rfl, ⟨A2, c2, rfl, l2, g2⟩, ⟨A3, c3, rfl, l3, g3⟩⟩ := h
  refine ⟨A0, c0, A1, c1, A2, c2, A3, c3, ?_, ⟨g0, l0⟩, ⟨g1, l1⟩, ⟨g2, l2⟩, ⟨g3, l3⟩⟩
  rw [show cs = cs.toList.toArray by simp, h0]
  rfl
/-- An instruction, and a stack ahead of it. -/
def KAsk : Kd (S29 × List Int) := Kd.pair k29 (Kd.slice 3 (Kd.int .i64))
theorem rd_ask : Bridge.Rdga Tryd.prog 50 KAsk (fun _ => True) := fun m => Bridge.Rdg.imp ((Bridge.Rdg.structa Tryd.underlying50 (by kernel_rfl) (fun m => Bridge.RdgF.cons rfl (rd_instr m) (Bridge.RdgF.one rfl (rd_ints m)))) m) (fun _ _ => trivial)
theorem ask_of {w : World} {x : S29 × List Int} {cs : Array Value} (h : KAsk.K w x cs.toList) : ∃ A c, cs = #[.int .i64 x.1.f0, .int .i64 x.1.f1, .int .i64 x.1.f2, .slice A x.2.length c] ∧ (Kd.int .i64).C w A x.2.length x.2 ∧ x.2.length ≤ c := by
  obtain ⟨i, st⟩ := x
  obtain ⟨_, _, h0, h1, ⟨A, c, rfl, l, g⟩⟩ := h
  refine ⟨A, c, ?_, g, l⟩
  rw [show cs = cs.toList.toArray by simp, h0, k29_open h1]
  rfl
end SkRow
theorem StackBelow_walk (cs : Array Value) (x : List S35 × List S37 × List S39 × List S43) (ca : Array Value) (a : S29 × List Int) (A : Option Addr) (c : Nat) (low : List Int) (w : World) (hk : SkRow.KProg.K w x cs.toList) (wf : True) (ha : SkRow.KAsk.K w a ca.toList) (wa : True) (hC : (Kd.int .i64).C w A low.length low) (hle : low.length ≤ c) (wl : ∀ a ∈ low, (Lit.int .i64 a).wf = true) (hL : laidMetH Tryd.prog Rows.stackBelowRow.laid w) :
    Calls Tryd.prog 7 #[.agg cs, .agg ca, .slice A low.length c] w fun e w' => e = .returned (.bool true) ∧ Below w.heap.size w w' := by
  obtain ⟨A0, c0, A1, c1, A2, c2, A3, c3, rfl, ⟨g0, l0⟩, ⟨g1, l1⟩, ⟨g2, l2⟩, ⟨g3, l3⟩⟩ := SkRow.prog_of hk
  obtain ⟨A4, c4, rfl, g4, l4⟩ := SkRow.ask_of ha
  exact ladderbacklaw19_StackBelow.calls 1000 A0 c0 x.1 A1 c1 x.2.1 A2 c2 x.2.2.1 A3 c3 x.2.2.2 a.1.f0 a.1.f1 a.1.f2 A4 c4 a.2 A c low true w g0 l0 g1 l1 g2 l2 g3 l3 g4 l4 hC hle (RPure.StackBelow _ _ _ _ _ _ _ _ _) (SkRow.laid_of hL rfl (by simp [Rows.stackBelowRow]) (by simp [Rows.stackBelowRow]) (by simp [Rows.stackBelowRow]))
end Go.Proofs.YtmcgllcoadbnpaaDoor
end

section
/- The law StackBelow holds for every input: the walk over its code shows that the call returns true and that what was read stays as it was; the row follows. The package-level tables that the code reads are tied to the program's text by the given tie. -/
namespace Go.Proofs.YtmcgllcoadbnpaaDoor.stackBelowRw
open Go.ChangeShapes Go.WideShapes Go.ChangeAt Go.RowKit
open Go.ChangeMaps (open_string shut_string)
open Go.Proofs.YtmcgllcoadbnpaaDoor.Bridge
set_option linter.unusedVariables false
set_option linter.unusedSimpArgs false
theorem own : ownKnob Tryd.prog.godebug = none := by kernel_rfl
theorem laidOut : laidOutB Tryd.prog = true := by kernel_rfl
theorem contract (H : Type) (enc : TypeId × Value → H) (W : World) (base : Nat) (args : Array Value) (ds gs : List (DataW H)) (before : List MemPlace)
    (hval : ∀ (j : Nat) t v, Tryd.f7.params[j]? = some t → args[j]? = some v → Value.okWide Tryd.prog W .any base t v)
    (hW : DataW.Whole enc Tryd.prog Tryd.f7.params.toList Rows.stackBelowSpec.vars false W args.toList ds gs before) (hsz : (DataW.weightsEach Tryd.prog (Tryd.f7.params.toList ++ Rows.stackBelowSpec.plain.varTypes Tryd.prog) (ds ++ gs)).all (· ≤ reachBytes) = true) (hL : laidMetH Tryd.prog Rows.stackBelowRow.laid W) :
    Calls Tryd.prog 7 args W fun e W' => ∃ v, e = .returned v ∧ Rows.stackBelowSpec.post enc Tryd.prog Tryd.f7 false true false false W args v W' := by
  have hW' := hW
  obtain ⟨p, q, hA0, hV, rfl, hfz, hnd⟩ := hW
  have hA : DataW.TrodAll enc Tryd.prog W 0 (fun _ => true) true Tryd.f7.params.toList args.toList ds p := hA0
  rw [Tryd.params7] at hA hval hsz
  obtain ⟨v0, vs0, d0, ds0, p0, q0, hargs, rfl, rfl, h0, r0⟩ := trodAll_cons hA
  obtain ⟨v1, vs1, d1, ds1, p1, q1, rfl, rfl, rfl, h1, r1⟩ := trodAll_cons r0
  obtain ⟨v2, vs2, d2, ds2, p2, q2, rfl, rfl, rfl, h2, r2⟩ := trodAll_cons r1
  obtain ⟨rfl, rfl, rfl⟩ := trodAll_nil r2
  obtain rfl : args = #[v0, v1, v2] := by cases args; simp_all
  obtain ⟨rfl, rfl⟩ := trodVars_none hV
  clear hA0
  have k0 := h0
  have lt0 : ∀ x ∈ p0, x.block < W.heap.size := by obtain ⟨m, hm⟩ := k0; exact DataW.trod_lt m _ _ _ hm
  obtain ⟨cs0, rfl⟩ : ∃ cs, v0 = .agg cs := by
    have z := (hval 0 27 v0 rfl rfl)
    unfold Value.okWide at z
    rw [Tryd.underlying27] at z
    obtain ⟨cs, e, _⟩ := z
    exact ⟨cs, e⟩
  obtain ⟨x0, hk0, wf0⟩ := Rdga.trod SkRow.rd_prog h0
  have k1 := h1
  have lt1 : ∀ x ∈ p1, x.block < W.heap.size := by obtain ⟨m, hm⟩ := k1; exact DataW.trod_lt m _ _ _ hm
  obtain ⟨cs1, rfl⟩ : ∃ cs, v1 = .agg cs := by
    have z := (hval 1 50 v1 rfl rfl)
    unfold Value.okWide at z
    rw [Tryd.underlying50] at z
    obtain ⟨cs, e, _⟩ := z
    exact ⟨cs, e⟩
  obtain ⟨x1, hk1, wf1⟩ := Rdga.trod SkRow.rd_ask h1
  have k2 := h2
  have lt2 : ∀ x ∈ p2, x.block < W.heap.size := by obtain ⟨m, hm⟩ := k2; exact DataW.trod_lt m _ _ _ hm
  obtain ⟨A2, len2, c2, rfl⟩ := okWide_slice Tryd.underlying40 (hval 2 40 v2 rfl rfl)
  obtain ⟨x2, hk2, wf2⟩ := Rdga.trod SkRow.rd_ints h2
  obtain ⟨A2', c2', he2, hle2, hC2⟩ := hk2
  simp only [Value.cells, List.cons.injEq, Value.slice.injEq, and_true] at he2
  obtain ⟨rfl, rfl, rfl⟩ := he2
  refine (StackBelow_walk cs0 x0 cs1 x1 A2 c2 x2 W hk0 wf0 hk1 wf1 hC2 hle2 wf2 hL).mono fun e W' ⟨he, bel⟩ => ?_
  subst he
  exact ⟨_, rfl, _, _, _, [], _, [], hW', trodAll_mk1 (shut_bool Tryd.underlying4 _), (trodAll_cons_mk (Below.trod laidOut (by kernel_rfl) (of_decide_eq_true (by kernel_rfl)) k0 bel lt0) (trodAll_cons_mk (Below.trod laidOut (by kernel_rfl) (of_decide_eq_true (by kernel_rfl)) k1 bel lt1) (trodAll_cons_mk (Below.trod laidOut (by kernel_rfl) (of_decide_eq_true (by kernel_rfl)) k2 bel lt2) trodAll_mk0))), rfl, bel.frame _, fun h => by cases h⟩
theorem laid_met (os : Os) : laidMetH Tryd.prog Rows.stackBelowRow.laid ((World.doorLaid Tryd.prog 4000 os).forCall (fun _ _ => 0) ⟨#[], #[.agg #[.slice none 0 0, .slice none 0 0, .slice none 0 0, .slice none 0 0], .agg #[.int .i64 0, .int .i64 0, .int .i64 0, .slice none 0 0], .slice none 0 0], []⟩).memory :=
  laidMetH_of_parts3 (fuel := 12) (laidMet_of_run' 12 (by kernel_rfl) (by kernel_rfl)) (by kernel_rfl) (by kernel_rfl)
theorem reads (os : Os) {H : Type} (enc : TypeId × Value → H) : ∃ ds places, DataW.whole enc Tryd.prog ((World.doorLaid Tryd.prog 4000 os).forCall (fun _ _ => 0) ⟨#[], #[.agg #[.slice none 0 0, .slice none 0 0, .slice none 0 0, .slice none 0 0], .agg #[.int .i64 0, .int .i64 0, .int .i64 0, .slice none 0 0], .slice none 0 0], []⟩).memory Tryd.f7.params.toList Rows.stackBelowSpec.vars false (#[.agg #[.slice none 0 0, .slice none 0 0, .slice none 0 0, .slice none 0 0], .agg #[.int .i64 0, .int .i64 0, .int .i64 0, .slice none 0 0], .slice none 0 0] : Array Value).toList 8 = some (ds, [], places) :=
  ⟨[.agg [.nil, .nil, .nil, .nil], .agg [.agg [.lit (.int .i64 0), .lit (.int .i64 0), .lit (.int .i64 0)], .nil], .nil], [], by kernel_rfl⟩
set_option maxRecDepth 100000 in
theorem lifted (os : Os) (started : os.Started) (H : Type) (enc : TypeId × Value → H) (F : Stop.Interp) :
    ReturnsInHanded {} Tryd.checked os 7 .any ((OpenSpec.ofChange Rows.stackBelowSpec).preRow enc Tryd.prog Tryd.f7 Rows.stackBelowRow.domain false Rows.stackBelowRow.laid) (((OpenSpec.ofChange Rows.stackBelowSpec).at F).post enc Tryd.prog Tryd.f7 false true false false) := by
  obtain ⟨ds, places, hx⟩ := reads os enc
  refine returnsInHanded_of_row (C := Tryd.checked) (s := OpenSpec.ofChange Rows.stackBelowSpec) own started (by kernel_rfl) Tryd.func7
    (witness_row_at (enc := enc) (C := Tryd.checked) false (World.doorLaid Tryd.prog 4000 os) #[.agg #[.slice none 0 0, .slice none 0 0, .slice none 0 0, .slice none 0 0], .agg #[.int .i64 0, .int .i64 0, .int .i64 0, .slice none 0 0], .slice none 0 0] rfl (by kernel_rfl) (by kernel_rfl) (by kernel_rfl)
      (OpenSpec.preRow_of_cond 8 hx (by kernel_rfl) (fun k hk => by cases hk) (by kernel_rfl) (laid_met os))) ?_
  intro W base args ds gs before hval hW _ _ hsz hL _ _
  exact contract H enc W base args ds gs before hval hW hsz hL
theorem said : Rows.StackBelowSaid :=
  OpenClaim.holds_of_cond 7 Tryd.f7 rfl rfl rfl rfl rfl rfl rfl ⟨rfl, rfl, rfl, rfl, rfl⟩ rfl rfl rfl rfl rfl (by kernel_rfl) Tryd.func7 (by kernel_rfl)
    (of_decide_eq_true (by kernel_rfl)) (by unfold Func.isWrapper; first | (rw [if_pos (by decide +kernel)]; kernel_rfl) | (rw [if_neg (by decide +kernel)]; exact ⟨rfl, rfl⟩))
    (fun os started H enc _ F => by rw [OpenClaim.pre_eq_preRow]; exact lifted os started H enc F)
theorem plain (f : FuncId) (fn : Func) (hf : Tryd.pinned.checked.prog.funcNamed "ladderback/ladderbacklaw19.StackBelow" = some f) (hfn : Tryd.pinned.checked.prog.funcs[f]? = some fn) :
    false = Tryd.pinned.checked.prog.looks [] ∧ ∀ (j : Nat) t, fn.params[j]? = some t → Tryd.pinned.checked.prog.wantsStandIn t = false := by
  obtain rfl : f = 7 := Option.some.inj ((show Tryd.prog.funcNamed "ladderback/ladderbacklaw19.StackBelow" = some 7 by kernel_rfl).symm.trans hf) |>.symm
  obtain rfl : fn = Tryd.f7 := (Option.some.inj (Tryd.func7.symm.trans hfn)).symm
  refine ⟨by kernel_rfl, fun j t ht => ?_⟩
  rw [Tryd.params7] at ht
  have hm : t ∈ [27, 50, 40] := by simpa using Array.mem_of_getElem? ht
  have hall : ([27, 50, 40].all fun u => !Tryd.prog.wantsStandIn u) = true := by kernel_rfl
  exact (show Tryd.prog.wantsStandIn t = false by simpa using List.all_eq_true.1 hall t hm)
theorem card : Rows.StackBelowCardSaid :=
  Claim7.holds_tied_plain_at .later [] _ _ _ _ said (fun _ h => by cases h) (by kernel_rfl) (fun _ h => by cases h) stackBelow_row_tie rfl ⟨rfl, rfl⟩ (by kernel_rfl) rfl plain (by kernel_rfl)
end Go.Proofs.YtmcgllcoadbnpaaDoor.stackBelowRw
namespace Go.Proofs.YtmcgllcoadbnpaaDoor
theorem stackBelow_holds : Rows.StackBelowCardSaid := stackBelowRw.card
#print axioms stackBelow_holds
end Go.Proofs.YtmcgllcoadbnpaaDoor
end

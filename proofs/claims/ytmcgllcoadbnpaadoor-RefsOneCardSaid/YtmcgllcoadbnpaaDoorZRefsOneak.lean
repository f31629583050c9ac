/- The law RefsOne holds for every input: the walk over its code shows that the call returns true and that what was read stays as it was; the row follows. The package-level tables that the code reads are tied to the program's text by the given tie. -/
import Derived.LaidLaws
import Derived.Lib.LaidTab
import Derived.OpenShut
import Derived.Test.YtmcgllcoadbnpaaDoorRows
import Derived.Test.YtmcgllcoadbnpaaDoorCards
import Derived.Test.YtmcgllcoadbnpaaDoorTie
import Derived.WalkKit
import Derived.ProofKit
import Derived.ShutString
import Derived.ChangeOld
import Derived.Below
import Derived.SizedLaws
import Derived.Deep.DeepHandedRow
import Derived.LaidMore
import Derived.Test.YtmcgllcoadbnpaaDoorZRefsOneaa
import Derived.Test.YtmcgllcoadbnpaaDoorZRefsOneab
import Derived.Test.YtmcgllcoadbnpaaDoorZRefsOneac
import Derived.Test.YtmcgllcoadbnpaaDoorZRefsOneae
import Derived.Test.YtmcgllcoadbnpaaDoorZRefsOneah
import Derived.Test.YtmcgllcoadbnpaaDoorZRefsOneai
import Derived.Test.YtmcgllcoadbnpaaDoorZRefsOneaj
section
/- Printed by a program of this session (wip/pg.py, over the print of the kit): functions, their Lean twins, and the proofs that the calls come to them; each under the conditions that it names. -/
namespace Go.Proofs.YtmcgllcoadbnpaaDoor.PRf
open Go.Proofs.YtmcgllcoadbnpaaDoor.Given
open Go.RowKit Go.Proofs.YtmcgllcoadbnpaaDoorW.PrintWords Go.Proofs.YtmcgllcoadbnpaaDoorW.PrintLast Go.Proofs.YtmcgllcoadbnpaaDoorW.PrintMore
attribute [local go_sem] max2_int min2_int max_two min_two max_three min_three max_four min_four   -- for this text's walks alone
set_option linter.unusedVariables false
set_option linter.unusedSimpArgs false

/-! ### ladderbackref18_Check: function 16 -/
mutual
def ladderbackref18_Check.j0 : Nat → Int → Bool → List (S35) → List (S37) → List (S39) → List (S43) → Option (Int × Int)
  | 0, _, _, _, _, _, _ => none
  | k + 1, x1, x17, x269000, x269001, x269002, x269003 => if x17 = true then (some (0, 15)) else (if 0 ≤ x1 then (if x1 < (x269003.length : Int) then (ladderbackref18_Check.l0 k x1 ((rd_T43 x269003 x1).f4) 0 x269000 x269001 x269002 x269003) else (none)) else (none))
def ladderbackref18_Check.l0 : Nat → Int → List (S29) → Int → List (S35) → List (S37) → List (S39) → List (S43) → Option (Int × Int)
  | 0, _, _, _, _, _, _, _ => none
  | k + 1, x1, x6, x7, x269000, x269001, x269002, x269003 => if x7 < (x6.length : Int) then (if 0 ≤ x7 then ((ladderbackref18_One.f k x269000 x269001 x269002 x269003 x1 ((rd_T29 x6 x7).f0) ((rd_T29 x6 x7).f1) ((rd_T29 x6 x7).f2)).bind fun t271 => (if t271 = 0 then ((ladderbackref18_Jump.f k x6 x7).bind fun t272 => (if t272 = 0 then (ladderbackref18_Check.l0 k x1 x6 (wrap64 (x7 + 1)) x269000 x269001 x269002 x269003) else (some (x7, t272)))) else (some (x7, t271)))) else (none)) else (some (0, 0))
end
def ladderbackref18_Check.f (k : Nat) (l0_0 : List (S35)) (l0_1 : List (S37)) (l0_2 : List (S39)) (l0_3 : List (S43)) (a1 : Int) : Option (Int × Int) := if a1 < 0 then (ladderbackref18_Check.j0 k a1 true l0_0 l0_1 l0_2 l0_3) else (ladderbackref18_Check.j0 k a1 (decide (a1 ≥ (l0_3.length : Int))) l0_0 l0_1 l0_2 l0_3)
def ladderbackref18_Check.T7 : Bool × List (List Nat × List Nat) := (true, [([], []), ([], []), ([], []), ([], []), ([2, 3], [2, 3]), ([4], [4]), ([0, 1, 5], [0, 1, 5]), ([6, 6, 0, 1, 2, 3, 4, 5, 6], [6])])
def ladderbackref18_Check.B7 : List Nat := [0, 0, 0, 0, 12, 28, 63, 127]
/-! ### ladderbacklaw18_RefsChecks: function 5 -/
def ladderbacklaw18_RefsChecks.f (k : Nat) (l0_0 : List (S35)) (l0_1 : List (S37)) (l0_2 : List (S39)) (l0_3 : List (S43)) (a1 : Int) : Option (Bool) := (ladderbacklaw16_Few.f k l0_0 l0_1 l0_2 l0_3).bind fun t274 => (if t274 = true then ((refs_Check.f k l0_0 l0_1 l0_2 l0_3 a1).bind fun bt275 => ((ladderbackref18_Check.f k l0_0 l0_1 l0_2 l0_3 a1).bind fun bt277 => (if bt275.1 = bt277.1 then (if bt275.2 = bt277.2 then ((ladderbacklaw18_awake.f).bind fun t279 => (some t279)) else (some false)) else (some false)))) else ((ladderbacklaw18_awake.f).bind fun t280 => (some t280)))
end Go.Proofs.YtmcgllcoadbnpaaDoor.PRf
end

section
/- RefsOne and RefsChecks, plainly. -/
namespace Go.Proofs.YtmcgllcoadbnpaaDoor.RPure
open Go.RowKit Go.Proofs.YtmcgllcoadbnpaaDoor.PRf Go.Proofs.YtmcgllcoadbnpaaDoor.Given Go.Proofs.YtmcgllcoadbnpaaDoorW.PrintWords Go.Proofs.YtmcgllcoadbnpaaDoorW.PrintLast Go.Proofs.YtmcgllcoadbnpaaDoorW.PrintMore
set_option linter.unusedVariables false
set_option linter.unusedSimpArgs false
theorem shape4 (n : Nat) (hn : n < 38) : shapeA (n : Int) = 4 ↔ 8 ≤ n ∧ n ≤ 26 := by
  rw [shapeA_at n hn]
  have : ∀ m : Fin 38, opA.getD m.val 0 = 4 ↔ 8 ≤ m.val ∧ m.val ≤ 26 := by decide
  exact this ⟨n, hn⟩
theorem rj1_true (k : Nat) (hk : 1 ≤ k) (u : Int) (C : LC) (V : LV) (B : LB) (U : LU) (x y z : Int) : ladderbackref18_One.j1 k u true C V B U x y z = some 10 := by
  obtain ⟨k, rfl⟩ : ∃ m, k = m + 1 := ⟨k - 1, by omega⟩
  rw [ladderbackref18_One.j1, if_pos rfl]
theorem rone_is (C : LC) (V : LV) (B : LB) (U : LU) (hU : Ok U) (u x y z : Int) (k : Nat) (hk : 1300 ≤ k) : ladderbackref18_One.f k C V B U u x y z = some (oneF C V B U u x y z) := by
  obtain ⟨k, rfl⟩ : ∃ m, k = m + 1 := ⟨k - 1, by omega⟩
  unfold ladderbackref18_One.f oneF
  by_cases h0 : u < 0
  · rw [if_pos h0, if_pos (.inl h0), ladderbackref18_One.j0, if_pos rfl]
  rw [if_neg h0, ladderbackref18_One.j0]
  by_cases h1 : (U.length : Int) ≤ u
  · rw [if_pos (decide_eq_true h1), if_pos (.inr h1)]
  rw [if_neg (show ¬ decide (u ≥ (U.length : Int)) = true by simpa using h1), if_neg (show ¬ (u < 0 ∨ (U.length : Int) ≤ u) by omega), rright x y z k (by omega), Option.bind_some]
  by_cases h2 : rightF x y z = true
  · rw [if_pos h2, if_pos h2]
    have hr := h2
    unfold rightF isOp at hr
    simp only [Bool.and_eq_true, decide_eq_true_eq] at hr
    have hy := may_nonneg hr.1.2
    obtain ⟨n, rfl⟩ : ∃ n : Nat, x = n := ⟨x.toNat, by omega⟩
    have hn : n < 38 := by omega
    have ht := rthere_is C V B U hU u y z n hn (by omega) (by omega) hy k (by omega)
    have h4 := shape4 n hn
    unfold typedF
    by_cases a1 : (n : Int) ≥ 8
    · rw [if_pos a1]
      by_cases a2 : (n : Int) ≤ 25
      · rw [if_pos a2, rgoes (n : Int) y k (by omega) a1 a2, Option.bind_some, if_neg (show ¬ (n : Int) = 26 by omega), if_neg (show ¬ (n : Int) = 26 by omega), if_pos (h4.2 (by omega))]
        by_cases a3 : goesOf (n : Int) y = true
        · rw [if_pos a3, if_pos a3]; exact ht
        · rw [if_neg a3, if_neg a3]; exact rj1_true k (by omega) _ _ _ _ _ _ _ _
      · rw [if_neg a2]
        by_cases a3 : (n : Int) = 26
        · rw [if_pos a3, if_pos a3]
          by_cases b1 : y < 1
          · rw [if_pos b1, if_neg (show ¬ decide (1 ≤ y ∧ y ≤ 6 ∧ 1 ≤ z ∧ z ≤ 6) = true by simp; omega)]; exact rj1_true k (by omega) _ _ _ _ _ _ _ _
          rw [if_neg b1]
          by_cases b2 : y > 6
          · rw [if_pos b2, if_neg (show ¬ decide (1 ≤ y ∧ y ≤ 6 ∧ 1 ≤ z ∧ z ≤ 6) = true by simp; omega)]; exact rj1_true k (by omega) _ _ _ _ _ _ _ _
          rw [if_neg b2]
          by_cases b3 : z < 1
          · rw [if_pos b3, if_neg (show ¬ decide (1 ≤ y ∧ y ≤ 6 ∧ 1 ≤ z ∧ z ≤ 6) = true by simp; omega)]; exact rj1_true k (by omega) _ _ _ _ _ _ _ _
          rw [if_neg b3]
          by_cases b4 : z > 6
          · rw [decide_eq_true b4, if_neg (show ¬ decide (1 ≤ y ∧ y ≤ 6 ∧ 1 ≤ z ∧ z ≤ 6) = true by simp; omega)]; exact rj1_true k (by omega) _ _ _ _ _ _ _ _
          · rw [decide_eq_false b4, if_pos (show decide (1 ≤ y ∧ y ≤ 6 ∧ 1 ≤ z ∧ z ≤ 6) = true by simp; omega)]; exact ht
        · rw [if_neg a3, if_neg a3, if_neg (show ¬ shapeA (n : Int) = 4 from fun h => by have := h4.1 h; omega), if_pos rfl]; exact ht
    · rw [if_neg a1, if_neg (show ¬ (n : Int) = 26 by omega), if_neg (show ¬ (n : Int) = 26 by omega), if_neg (show ¬ shapeA (n : Int) = 4 from fun h => by have := h4.1 h; omega), if_pos rfl]; exact ht
  · rw [if_neg h2, if_neg h2]
-- few
theorem few15 (X : S43) : ∃ b, ladderbacklaw15_Few.f X.f0 X.f1 X.f2 X.f3 X.f4 = some b ∧ (b = true → X.f1.length ≤ 20 ∧ X.f3.length ≤ 1100 ∧ X.f4.length ≤ 300) := by
  unfold ladderbacklaw15_Few.f
  by_cases h1 : (X.f0.size : Int) ≤ 300
  · rw [if_pos h1]
    by_cases h2 : (X.f1.length : Int) ≤ 20
    · rw [if_pos h2]
      by_cases h3 : (X.f3.length : Int) ≤ 1100
      · rw [if_pos h3]
        exact ⟨_, rfl, fun h => by simp at h; omega⟩
      · rw [if_neg h3]; exact ⟨_, rfl, fun h => by cases h⟩
    · rw [if_neg h2]; exact ⟨_, rfl, fun h => by cases h⟩
  · rw [if_neg h1]; exact ⟨_, rfl, fun h => by cases h⟩
theorem rd_unit_at (U : LU) (j : Nat) (h : j < U.length) : rd_T43 U (j : Int) = U[j] := by
  unfold rd_T43
  rw [Int.toNat_natCast, List.getD_eq_getElem?_getD, List.getElem?_eq_getElem h]; rfl
theorem few_l2 (C : LC) (V : LV) (B : LB) (U : LU) (hl : U.length ≤ 10) : ∀ m j : Nat, j + m = U.length → ∃ b, (∀ k, m + 1 ≤ k → ladderbacklaw16_Few.l2 k (j : Int) C V B U = some b) ∧ (b = true → ∀ i (hi : i < U.length), j ≤ i → U[i].f1.length ≤ 20 ∧ U[i].f3.length ≤ 1100 ∧ U[i].f4.length ≤ 300) := by
  intro m
  induction m with
  | zero =>
    intro j hj
    refine ⟨true, fun k hk => ?_, fun _ i hi h => by omega⟩
    obtain ⟨k, rfl⟩ : ∃ m, k = m + 1 := ⟨k - 1, by omega⟩
    rw [ladderbacklaw16_Few.l2, if_neg (by omega)]
  | succ m ih =>
    intro j hj
    have hlt : j < U.length := by omega
    obtain ⟨b1, e1, f1⟩ := few15 U[j]
    obtain ⟨b2, e2, f2⟩ := ih (j + 1) (by omega)
    refine ⟨b1 && b2, fun k hk => ?_, fun h i hi hji => ?_⟩
    · obtain ⟨k, rfl⟩ : ∃ m, k = m + 1 := ⟨k - 1, by omega⟩
      rw [ladderbacklaw16_Few.l2, if_pos (by omega), if_pos (by omega), rd_unit_at U j hlt, e1, Option.bind_some]
      cases b1 with
      | true => rw [if_pos rfl, w64 _ (by omega) (by omega)]; exact e2 k (by omega)
      | false => rfl
    · rw [Bool.and_eq_true] at h
      rcases Nat.lt_or_ge j i with h1 | h1
      · exact f2 h.2 i hi h1
      · obtain rfl : i = j := by omega
        exact f1 h.1
theorem few_l1 (C : LC) (V : LV) (B : LB) (U : LU) (hl : U.length ≤ 10) (hB : B.length ≤ 40) : ∀ m j : Nat, j + m = B.length → ∃ b, (∀ k, m + 20 ≤ k → ladderbacklaw16_Few.l1 k (j : Int) C V B U = some b) ∧ (b = true → Ok U) := by
  intro m
  induction m with
  | zero =>
    intro j hj
    obtain ⟨b, e, f⟩ := few_l2 C V B U hl U.length 0 (by omega)
    refine ⟨b, fun k hk => ?_, fun h X hX => ?_⟩
    · obtain ⟨k, rfl⟩ : ∃ m, k = m + 1 := ⟨k - 1, by omega⟩
      rw [ladderbacklaw16_Few.l1, if_neg (by omega)]
      exact e k (by omega)
    · obtain ⟨i, hi, rfl⟩ := List.getElem_of_mem hX
      exact f h i hi (Nat.zero_le _)
  | succ m ih =>
    intro j hj
    obtain ⟨b2, e2, f2⟩ := ih (j + 1) (by omega)
    by_cases hs : (((rd_T39 B (j : Int)).f0).size : Int) > 300
    · refine ⟨false, fun k hk => ?_, fun h => by cases h⟩
      obtain ⟨k, rfl⟩ : ∃ m, k = m + 1 := ⟨k - 1, by omega⟩
      rw [ladderbacklaw16_Few.l1, if_pos (by omega), if_pos (by omega), if_pos hs]
    · refine ⟨b2, fun k hk => ?_, f2⟩
      obtain ⟨k, rfl⟩ : ∃ m, k = m + 1 := ⟨k - 1, by omega⟩
      rw [ladderbacklaw16_Few.l1, if_pos (by omega), if_pos (by omega), if_neg hs, w64 _ (by omega) (by omega)]
      exact e2 k (by omega)
theorem few_l0 (C : LC) (V : LV) (B : LB) (U : LU) (hl : U.length ≤ 10) (hB : B.length ≤ 40) (hV : V.length ≤ 70) : ∀ m j : Nat, j + m = V.length → ∃ b, (∀ k, m + 70 ≤ k → ladderbacklaw16_Few.l0 k (j : Int) C V B U = some b) ∧ (b = true → Ok U) := by
  intro m
  induction m with
  | zero =>
    intro j hj
    obtain ⟨b, e, f⟩ := few_l1 C V B U hl hB B.length 0 (by omega)
    refine ⟨b, fun k hk => ?_, f⟩
    obtain ⟨k, rfl⟩ : ∃ m, k = m + 1 := ⟨k - 1, by omega⟩
    rw [ladderbacklaw16_Few.l0, if_neg (by omega)]
    exact e k (by omega)
  | succ m ih =>
    intro j hj
    obtain ⟨b2, e2, f2⟩ := ih (j + 1) (by omega)
    by_cases hs : (((rd_T37 V (j : Int)).f0).size : Int) > 300
    · refine ⟨false, fun k hk => ?_, fun h => by cases h⟩
      obtain ⟨k, rfl⟩ : ∃ m, k = m + 1 := ⟨k - 1, by omega⟩
      rw [ladderbacklaw16_Few.l0, if_pos (by omega), if_pos (by omega), if_pos hs]
    · refine ⟨b2, fun k hk => ?_, f2⟩
      obtain ⟨k, rfl⟩ : ∃ m, k = m + 1 := ⟨k - 1, by omega⟩
      rw [ladderbacklaw16_Few.l0, if_pos (by omega), if_pos (by omega), if_neg hs, w64 _ (by omega) (by omega)]
      exact e2 k (by omega)
theorem few_is (C : LC) (V : LV) (B : LB) (U : LU) : ∃ b, (∀ k, 200 ≤ k → ladderbacklaw16_Few.f k C V B U = some b) ∧ (b = true → Ok U ∧ U.length ≤ 10) := by
  have hj : ∀ k, 1 ≤ k → ladderbacklaw16_Few.j0 k true C V B U = some false := fun k hk => by
    obtain ⟨k, rfl⟩ : ∃ m, k = m + 1 := ⟨k - 1, by omega⟩
    rw [ladderbacklaw16_Few.j0, if_pos rfl]
  by_cases h1 : (C.length : Int) > 60
  · exact ⟨false, fun k hk => by unfold ladderbacklaw16_Few.f; rw [if_pos h1]; exact hj k (by omega), fun h => by cases h⟩
  by_cases h2 : (V.length : Int) > 70
  · exact ⟨false, fun k hk => by unfold ladderbacklaw16_Few.f; rw [if_neg h1, if_pos h2]; exact hj k (by omega), fun h => by cases h⟩
  by_cases h3 : (B.length : Int) > 40
  · exact ⟨false, fun k hk => by unfold ladderbacklaw16_Few.f; rw [if_neg h1, if_neg h2, if_pos h3]; exact hj k (by omega), fun h => by cases h⟩
  by_cases h4 : (U.length : Int) > 10
  · exact ⟨false, fun k hk => by unfold ladderbacklaw16_Few.f; rw [if_neg h1, if_neg h2, if_neg h3, decide_eq_true h4]; exact hj k (by omega), fun h => by cases h⟩
  obtain ⟨b, e, f⟩ := few_l0 C V B U (by omega) (by omega) (by omega) V.length 0 (by omega)
  refine ⟨b, fun k hk => ?_, fun h => ⟨f h, by omega⟩⟩
  obtain ⟨k, rfl⟩ : ∃ m, k = m + 1 := ⟨k - 1, by omega⟩
  unfold ladderbacklaw16_Few.f
  rw [if_neg h1, if_neg h2, if_neg h3, decide_eq_false h4, ladderbacklaw16_Few.j0, if_neg (by decide)]
  exact e k (by omega)
-- jumps
theorem rjump_l0 (l : List S29) (hl : l.length ≤ 100000) (pc y : Nat) (x z : Int) (hy : pc + 1 + y ≤ l.length) : ∀ m j : Nat, j + m = y → ∀ k, m + 1 ≤ k →
    ladderbackref18_Jump.l0 k l (pc : Int) (j : Int) x (y : Int) z = some (if (((l.drop (pc + 1)).take y).drop j).all (fun x => decide (x.f0 = 30)) = true then 0 else 11) := by
  intro m
  induction m with
  | zero =>
    intro j hj k hk
    obtain ⟨k, rfl⟩ : ∃ m, k = m + 1 := ⟨k - 1, by omega⟩
    rw [ladderbackref18_Jump.l0, if_neg (by omega), List.drop_eq_nil_of_le (by simp; omega)]
    rfl
  | succ m ih =>
    intro j hj k hk
    obtain ⟨k, rfl⟩ : ∃ m, k = m + 1 := ⟨k - 1, by omega⟩
    have hlt : j < ((l.drop (pc + 1)).take y).length := by simp; omega
    have hg : ((l.drop (pc + 1)).take y)[j] = rd_T29 l ((pc + 1 + j : Nat) : Int) := by
      unfold rd_T29
      rw [Int.toNat_natCast, List.getD_eq_getElem?_getD, List.getElem?_eq_getElem (by omega)]
      simp
    rw [ladderbackref18_Jump.l0, if_pos (by omega), w64 ((pc : Int) + 1) (by omega) (by omega), w64 _ (by omega) (by omega), if_pos (by omega), if_pos (by omega), show (pc : Int) + 1 + (j : Int) = ((pc + 1 + j : Nat) : Int) by omega, w64 _ (by omega) (by omega)]
    have hall : (((l.drop (pc + 1)).take y).drop j).all (fun x => decide (x.f0 = 30)) = (decide ((rd_T29 l ((pc + 1 + j : Nat) : Int)).f0 = 30) && (((l.drop (pc + 1)).take y).drop (j + 1)).all (fun x => decide (x.f0 = 30))) := by
      rw [List.drop_eq_getElem_cons hlt, hg, List.all_cons]
    refine Eq.trans ?_ (congrArg (fun b : Bool => some (if b = true then (0 : Int) else 11)) hall.symm)
    by_cases h : (rd_T29 l ((pc + 1 + j : Nat) : Int)).f0 = 30
    · rw [if_pos h, decide_eq_true h, Bool.true_and]
      exact ih (j + 1) (by omega) k (by omega)
    · rw [if_neg h, decide_eq_false h, Bool.false_and]; rfl
theorem rjump_is (l : List S29) (hl : l.length ≤ 100000) (pc : Int) (k : Nat) (hk : l.length + 10 ≤ k) : ladderbackref18_Jump.f k l pc = some (jumpF l pc) := by
  obtain ⟨k, rfl⟩ : ∃ m, k = m + 3 := ⟨k - 3, by omega⟩
  unfold ladderbackref18_Jump.f jumpF
  by_cases h0 : pc < 0
  · rw [if_pos h0, if_pos (.inl h0), ladderbackref18_Jump.j0, if_pos rfl]
  rw [if_neg h0, ladderbackref18_Jump.j0]
  by_cases h1 : (l.length : Int) ≤ pc
  · rw [if_pos (decide_eq_true h1), if_pos (.inr h1)]
  rw [if_neg (show ¬ decide (pc ≥ (l.length : Int)) = true by simpa using h1), if_neg (show ¬ (pc < 0 ∨ (l.length : Int) ≤ pc) by omega), if_pos (show 0 ≤ pc by omega), if_pos (show pc < (l.length : Int) by omega)]
  obtain ⟨n, rfl⟩ : ∃ n : Nat, pc = n := ⟨pc.toNat, by omega⟩
  generalize rd_T29 l (n : Int) = X
  have jt : ∀ (x y z : Int), ladderbackref18_Jump.j1 (k + 2) l (n : Int) true x y z = some 11 := fun x y z => by rw [ladderbackref18_Jump.j1, if_pos rfl]
  have jf : ladderbackref18_Jump.j1 (k + 2) l (n : Int) false X.f0 X.f1 X.f2 = some (if X.f0 = 32 then (if X.f1 < 0 ∨ (l.length : Int) - n - 1 ≤ X.f1 then 11 else if ((l.drop ((n : Int).toNat + 1)).take X.f1.toNat).all (fun x => decide (x.f0 = 30)) = true then 0 else 11) else 0) := by
    rw [ladderbackref18_Jump.j1, if_neg (by decide)]
    by_cases h32 : X.f0 = 32
    · rw [if_pos h32, if_pos h32]
      by_cases b1 : X.f1 < 0
      · rw [if_pos b1, if_pos (.inl b1), ladderbackref18_Jump.j2, if_pos rfl]
      rw [if_neg b1, w64 ((l.length : Int) - n) (by omega) (by omega), w64 _ (by omega) (by omega), ladderbackref18_Jump.j2]
      by_cases b2 : (l.length : Int) - n - 1 ≤ X.f1
      · rw [if_pos (decide_eq_true b2), if_pos (.inr b2)]
      rw [if_neg (show ¬ decide (X.f1 ≥ (l.length : Int) - n - 1) = true by simpa using b2), if_neg (show ¬ (X.f1 < 0 ∨ (l.length : Int) - n - 1 ≤ X.f1) by omega)]
      have := rjump_l0 l hl n X.f1.toNat X.f0 X.f2 (by omega) X.f1.toNat 0 (by omega) k (by omega)
      rw [List.drop_zero, show ((X.f1.toNat : Nat) : Int) = X.f1 by omega] at this
      rw [Int.toNat_natCast]
      exact this
    · rw [if_neg h32, if_neg h32]
  have cc : ∀ h : X.f0 = 30 ∨ X.f0 = 31, ladderbackref18_Jump.j1 (k + 2) l (n : Int) (decide (X.f1 ≥ (l.length : Int))) X.f0 X.f1 X.f2 = some (if X.f1 < (l.length : Int) then 0 else 11) := fun h => by
    by_cases b2 : X.f1 ≥ (l.length : Int)
    · rw [decide_eq_true b2, if_neg (show ¬ X.f1 < (l.length : Int) by omega)]; exact jt _ _ _
    · rw [decide_eq_false b2, if_pos (show X.f1 < (l.length : Int) by omega), jf, if_neg (show ¬ X.f0 = 32 by omega)]
  have cd : ∀ h : X.f0 = 30 ∨ X.f0 = 31, (if X.f1 < 0 then ladderbackref18_Jump.j1 (k + 2) l (n : Int) true X.f0 X.f1 X.f2 else ladderbackref18_Jump.j1 (k + 2) l (n : Int) (decide (X.f1 ≥ (l.length : Int))) X.f0 X.f1 X.f2) = some (if 0 ≤ X.f1 ∧ X.f1 < (l.length : Int) then 0 else 11) := fun h => by
    by_cases b1 : X.f1 < 0
    · rw [if_pos b1, if_neg (show ¬ (0 ≤ X.f1 ∧ X.f1 < (l.length : Int)) by omega)]; exact jt _ _ _
    · rw [if_neg b1, cc h]
      by_cases b2 : X.f1 < (l.length : Int)
      · rw [if_pos b2, if_pos ⟨by omega, b2⟩]
      · rw [if_neg b2, if_neg (fun h => b2 h.2)]
  by_cases a1 : X.f0 = 30
  · have o : X.f0 = 30 ∨ X.f0 = 31 := .inl a1
    rw [if_pos o, ← cd o, if_pos a1]
  by_cases a2 : X.f0 = 31
  · have o : X.f0 = 30 ∨ X.f0 = 31 := .inr a2
    rw [if_pos o, ← cd o, if_neg a1, if_pos a2]
  · have o : ¬ (X.f0 = 30 ∨ X.f0 = 31) := by omega
    rw [if_neg o, ← jf, if_neg a1, if_neg a2]
theorem awake_t : ladderbacklaw18_awake.f = some true := rfl
-- the laws
theorem one_loop (C : LC) (V : LV) (B : LB) (U : LU) (hU : Ok U) (u x y z : Int) (l : List S29) (hl : l.length ≤ 1000) : ∀ m : Nat, ∀ pc : Int, -1 ≤ pc → pc + m = l.length + 1 → ∀ k, 3500 + m ≤ k →
    ladderbacklaw18_RefsOne.l0 k u l pc C V B U x y z = some true := by
  intro m
  induction m with
  | zero =>
    intro pc h0 hm k hk
    obtain ⟨k, rfl⟩ : ∃ m, k = m + 1 := ⟨k - 1, by omega⟩
    rw [ladderbacklaw18_RefsOne.l0, if_neg (by omega), one_is C V B U hU u x y z k (by omega), Option.bind_some, rone_is C V B U hU u x y z k (by omega), Option.bind_some, if_pos rfl, awake_t]
    rfl
  | succ m ih =>
    intro pc h0 hm k hk
    obtain ⟨k, rfl⟩ : ∃ m, k = m + 1 := ⟨k - 1, by omega⟩
    rw [ladderbacklaw18_RefsOne.l0, if_pos (by omega), rjump_is l (by omega) pc k (by omega)]
    unfold refs_Jump.f
    rw [Option.bind_some, Option.bind_some, if_pos rfl, w64 _ (by omega) (by omega)]
    exact ih (pc + 1) (by omega) (by omega) k (by omega)
theorem RefsOne (C : LC) (V : LV) (B : LB) (U : LU) (u x y z : Int) : ladderbacklaw18_RefsOne.f 6000 C V B U u x y z = some true := by
  obtain ⟨b, e, f⟩ := few_is C V B U
  unfold ladderbacklaw18_RefsOne.f
  rw [e 6000 (by omega), Option.bind_some]
  cases b with
  | false => rw [if_neg (by decide), awake_t]; rfl
  | true =>
    obtain ⟨hU, hn⟩ := f rfl
    rw [if_pos rfl]
    have jf : ladderbacklaw18_RefsOne.j0 6000 u false C V B U x y z = some true := by
      rw [ladderbacklaw18_RefsOne.j0, if_neg (by decide), one_is C V B U hU u x y z 5999 (by omega), Option.bind_some, rone_is C V B U hU u x y z 5999 (by omega), Option.bind_some, if_pos rfl, awake_t]; rfl
    by_cases h0 : u ≥ 0
    · rw [if_pos h0]
      by_cases h1 : u < (U.length : Int)
      · obtain ⟨o1, o2, o3⟩ := ok_at hU u h0 h1
        rw [decide_eq_true h1, ladderbacklaw18_RefsOne.j0, if_pos rfl, Option.bind_some, if_pos h0, if_pos h1, if_pos (by simp only [List.length_nil]; omega), Option.bind_some, Option.bind_some, if_pos (by simp only [List.nil_append, List.length_cons, List.length_nil]; omega)]
        refine one_loop C V B U hU u x y z _ (by simp; omega) ((rd_T43 U u).f4.length + 3) (-1) (by omega) ?_ _ (by omega)
        simp only [List.nil_append, List.length_append, List.length_cons, List.length_nil]
        omega
      · rw [decide_eq_false h1]; exact jf
    · rw [if_neg h0]; exact jf
theorem check_loop (C : LC) (V : LV) (B : LB) (U : LU) (hU : Ok U) (u : Int) (l : List S29) (hl : l.length ≤ 300) : ∀ m j : Nat, j + m = l.length → ∃ v : Int × Int, ∀ k, 2000 + m ≤ k →
    refs_Check.l0 k u l l (l.length : Int) (j : Int) C V B U = some v ∧ ladderbackref18_Check.l0 k u l (j : Int) C V B U = some v := by
  intro m
  induction m with
  | zero =>
    intro j hj
    refine ⟨(0, 0), fun k hk => ?_⟩
    obtain ⟨k, rfl⟩ : ∃ m, k = m + 1 := ⟨k - 1, by omega⟩
    rw [refs_Check.l0, if_neg (by omega), ladderbackref18_Check.l0, if_neg (by omega)]
    exact ⟨rfl, rfl⟩
  | succ m ih =>
    intro j hj
    obtain ⟨v, hv⟩ := ih (j + 1) (by omega)
    generalize hX : rd_T29 l (j : Int) = X
    by_cases h1 : oneF C V B U u X.f0 X.f1 X.f2 = 0
    · by_cases h2 : jumpF l (j : Int) = 0
      · refine ⟨v, fun k hk => ?_⟩
        obtain ⟨k, rfl⟩ : ∃ m, k = m + 1 := ⟨k - 1, by omega⟩
        have := hv k (by omega)
        rw [refs_Check.l0, ladderbackref18_Check.l0, if_pos (by omega), if_pos (by omega), if_pos (by omega), if_pos (by omega), if_pos (by omega), hX, one_is C V B U hU u _ _ _ k (by omega), rone_is C V B U hU u _ _ _ k (by omega), rjump_is l (by omega) _ k (by omega)]
        unfold refs_Jump.f
        simp only [Option.bind_some]
        rw [if_pos h1, if_pos h2, if_pos h1, if_pos h2, w64 _ (by omega) (by omega)]
        exact this
      · refine ⟨((j : Int), jumpF l (j : Int)), fun k hk => ?_⟩
        obtain ⟨k, rfl⟩ : ∃ m, k = m + 1 := ⟨k - 1, by omega⟩
        rw [refs_Check.l0, ladderbackref18_Check.l0, if_pos (by omega), if_pos (by omega), if_pos (by omega), if_pos (by omega), if_pos (by omega), hX, one_is C V B U hU u _ _ _ k (by omega), rone_is C V B U hU u _ _ _ k (by omega), rjump_is l (by omega) _ k (by omega)]
        unfold refs_Jump.f
        simp only [Option.bind_some]
        rw [if_pos h1, if_neg h2, if_pos h1, if_neg h2]
        exact ⟨rfl, rfl⟩
    · refine ⟨((j : Int), oneF C V B U u X.f0 X.f1 X.f2), fun k hk => ?_⟩
      obtain ⟨k, rfl⟩ : ∃ m, k = m + 1 := ⟨k - 1, by omega⟩
      rw [refs_Check.l0, ladderbackref18_Check.l0, if_pos (by omega), if_pos (by omega), if_pos (by omega), if_pos (by omega), if_pos (by omega), hX, one_is C V B U hU u _ _ _ k (by omega), rone_is C V B U hU u _ _ _ k (by omega)]
      simp only [Option.bind_some]
      rw [if_neg h1, if_neg h1]
      exact ⟨rfl, rfl⟩
theorem RefsChecks (C : LC) (V : LV) (B : LB) (U : LU) (u : Int) : ladderbacklaw18_RefsChecks.f 6000 C V B U u = some true := by
  obtain ⟨b, e, f⟩ := few_is C V B U
  unfold ladderbacklaw18_RefsChecks.f
  rw [e 6000 (by omega), Option.bind_some]
  cases b with
  | false => rw [if_neg (by decide), awake_t]; rfl
  | true =>
    obtain ⟨hU, hn⟩ := f rfl
    rw [if_pos rfl]
    have key : ∃ v : Int × Int, refs_Check.f 6000 C V B U u = some v ∧ ladderbackref18_Check.f 6000 C V B U u = some v := by
      unfold refs_Check.f ladderbackref18_Check.f
      by_cases h0 : u < 0
      · rw [if_pos h0, if_pos h0, refs_Check.j0, ladderbackref18_Check.j0, if_pos rfl, if_pos rfl]; exact ⟨_, rfl, rfl⟩
      rw [if_neg h0, if_neg h0, refs_Check.j0, ladderbackref18_Check.j0]
      by_cases h1 : u ≥ (U.length : Int)
      · rw [decide_eq_true h1, if_pos rfl, if_pos rfl]; exact ⟨_, rfl, rfl⟩
      have q0 : ¬ (false = true) := by decide
      have q1 : 0 ≤ u := by omega
      have q2 : u < (U.length : Int) := by omega
      rw [decide_eq_false h1, if_neg q0, if_neg q0, if_pos q1, if_pos q2, if_pos q1, if_pos q2]
      obtain ⟨o1, o2, o3⟩ := ok_at hU u (by omega) (by omega)
      obtain ⟨v, hv⟩ := check_loop C V B U hU u (rd_T43 U u).f4 o3 (rd_T43 U u).f4.length 0 (by omega)
      exact ⟨v, hv 5999 (by omega)⟩
    obtain ⟨v, e1, e2⟩ := key
    rw [e1, Option.bind_some, e2, Option.bind_some, if_pos rfl, if_pos rfl, awake_t]
    rfl
end Go.Proofs.YtmcgllcoadbnpaaDoor.RPure
end

section
/- What a package's variable that is laid as plain data has in its cells; numbers, truths, texts, structs and arrays alone. -/
namespace Go.Proofs.YtmcgllcoadbnpaaDoor.Flat
open Go Go.Lib Go.RowKit
mutual
/-- The cells that a datum of numbers, bools, texts, structs and arrays says. -/
def flatW {H : Type} : DataW H → Option (List Value)
  | .lit (.int k n) => some [.int k n]
  | .lit (.bool b) => some [.bool b]
  | .lit (.string s) => some [.string ⟨s.toArray⟩]
  | .agg ps => flatWs ps
  | _ => none
def flatWs {H : Type} : List (DataW H) → Option (List Value)
  | [] => some []
  | d :: r => (flatW d).bind fun a => (flatWs r).map (a ++ ·)
end
/-- Do a type's parts lie one behind the other, without a gap? -/
def tiles (P : Program) : Nat → TypeId → Bool
  | 0, _ => false
  | n + 1, t => match P.underlying t with
    | some .bool | some (.int _) | some .string => true
    | some (.struct fs) => fs.toList.foldl (fun o f => o.bind fun k => if f.offset = k ∧ tiles P n f.type = true then some (k + P.cellsOf f.type) else none) (some 0) == some (P.cellsOf t)
    | some (.array m e) => tiles P n e && P.cellsOf t == m * P.cellsOf e
    | _ => false
theorem foldl_none {α β : Type} (f : Option β → α → Option β) (h : ∀ a, f none a = none) : ∀ l : List α, l.foldl f none = none
  | [] => rfl
  | a :: l => by rw [List.foldl_cons, h, foldl_none f h l]
theorem flat_cells {H : Type} {enc : TypeId × Value → H} {P : Program} {w : World} {base : Nat} {sp : Nat → Bool} {held : Bool} :
    ∀ (n fuel : Nat) (t : TypeId) (cs : List Value) (d : DataW H) (ps : List MemPlace) (vs : List Value), tiles P n t = true → DataW.trod enc P w base sp held fuel t cs = some (d, ps) → flatW d = some vs → cs = vs := by
  intro n
  induction n with
  | zero => intro fuel t cs d ps vs ht; simp [tiles] at ht
  | succ n ih =>
    intro fuel t cs d ps vs ht h hf
    cases fuel with
    | zero => simp [DataW.trod] at h
    | succ fuel =>
      cases hu : P.underlying t with
      | none => simp [tiles, hu] at ht
      | some u =>
        cases u with
        | bool =>
          unfold DataW.trod at h; rw [hu] at h
          split at h <;> simp_all
          obtain ⟨rfl, _⟩ := h
          simp [flatW] at hf; exact hf
        | int k =>
          unfold DataW.trod at h; rw [hu] at h
          split at h <;> simp_all
          obtain ⟨⟨rfl, _⟩, rfl, _⟩ := h
          simp [flatW] at hf; exact hf
        | string =>
          unfold DataW.trod at h; rw [hu] at h
          split at h <;> simp_all
          obtain ⟨_, rfl, _⟩ := h
          simp [flatW] at hf; exact hf
        | struct fs =>
          simp only [tiles, hu, beq_iff_eq] at ht
          unfold DataW.trod at h; rw [hu] at h
          simp only at h
          split at h
          · rename_i hl
            obtain ⟨xs, hm, hx⟩ := Option.map_eq_some_iff.1 h
            simp only [Prod.mk.injEq] at hx
            obtain ⟨rfl, _⟩ := hx
            have key : ∀ (fs : List Field) (k : Nat) (xs : List (DataW H × List MemPlace)) (vs : List Value), k ≤ cs.length → fs.mapM (fun f => DataW.trod enc P w base sp held fuel f.type ((cs.drop f.offset).take (P.cellsOf f.type))) = some xs →
                fs.foldl (fun o f => o.bind fun k => if f.offset = k ∧ tiles P n f.type = true then some (k + P.cellsOf f.type) else none) (some k) = some cs.length → flatWs (xs.map (·.1)) = some vs → cs.drop k = vs := by
              intro fs
              induction fs with
              | nil =>
                intro k xs vs hk hm ht hf
                simp at hm; subst hm
                simp [flatWs] at hf; subst hf
                simp at ht; simp; omega
              | cons f fs ihf =>
                intro k xs vs hk hm ht hf
                simp only [List.mapM_cons, Option.bind_eq_bind, Option.bind_eq_some_iff, Option.pure_def, Option.some.injEq] at hm
                obtain ⟨b, hb, r, hr, rfl⟩ := hm
                simp only [List.foldl_cons, Option.bind_some] at ht
                split at ht
                · rename_i hc
                  obtain ⟨hc1, hc2⟩ := hc
                  simp only [List.map_cons, flatWs, Option.bind_eq_some_iff, Option.map_eq_some_iff] at hf
                  obtain ⟨a, ha, s, hs, rfl⟩ := hf
                  have e1 := ih _ _ _ b.1 b.2 a hc2 (by rw [hb]) ha
                  rw [hc1] at e1
                  have hle : k + P.cellsOf f.type ≤ cs.length := by
                    have mono : ∀ (l : List Field) (k m : Nat), l.foldl (fun o f => o.bind fun k => if f.offset = k ∧ tiles P n f.type = true then some (k + P.cellsOf f.type) else none) (some k) = some m → k ≤ m := by
                      intro l
                      induction l with
                      | nil => intro k m h; simp at h; omega
                      | cons g l ihl =>
                        intro k m h
                        simp only [List.foldl_cons, Option.bind_some] at h
                        split at h
                        · have := ihl _ _ h; omega
                        · rw [foldl_none _ (fun _ => rfl)] at h; cases h
                    exact mono _ _ _ ht
                  have e2 := ihf _ _ _ hle hr ht hs
                  rw [← e1, ← e2, ← List.drop_drop, List.take_append_drop]
                · rw [foldl_none _ (fun _ => rfl)] at ht; cases ht
            have := key fs.toList 0 xs vs (Nat.zero_le _) hm (by rw [ht, hl]) (by simpa [flatW] using hf)
            simpa using this
          · cases h
        | array m e =>
          simp only [tiles, hu, Bool.and_eq_true, beq_iff_eq] at ht
          obtain ⟨ht1, ht2⟩ := ht
          unfold DataW.trod at h; rw [hu] at h
          simp only at h
          split at h
          · rename_i hl
            obtain ⟨xs, hm, hx⟩ := Option.map_eq_some_iff.1 h
            simp only [Prod.mk.injEq] at hx
            obtain ⟨rfl, _⟩ := hx
            have key : ∀ (j k : Nat) (xs : List (DataW H × List MemPlace)) (vs : List Value), k + j = m → (List.range' k j).mapM (fun i => DataW.trod enc P w base sp held fuel e ((cs.drop (i * P.cellsOf e)).take (P.cellsOf e))) = some xs → flatWs (xs.map (·.1)) = some vs → cs.drop (k * P.cellsOf e) = vs := by
              intro j
              induction j with
              | zero =>
                intro k xs vs hk hm hf
                simp at hm; subst hm
                simp [flatWs] at hf; subst hf
                have hkm : k = m := by omega
                subst hkm
                rw [← ht2, ← hl]; simp
              | succ j ihj =>
                intro k xs vs hk hm hf
                simp only [List.range'_succ, List.mapM_cons, Option.bind_eq_bind, Option.bind_eq_some_iff, Option.pure_def, Option.some.injEq] at hm
                obtain ⟨b, hb, r, hr, rfl⟩ := hm
                simp only [List.map_cons, flatWs, Option.bind_eq_some_iff, Option.map_eq_some_iff] at hf
                obtain ⟨a, ha, s, hs, rfl⟩ := hf
                have e1 := ih _ _ _ b.1 b.2 a ht1 (by rw [hb]) ha
                have e2 := ihj (k + 1) _ _ (by omega) hr hs
                rw [← e1, ← e2, Nat.add_mul, Nat.one_mul, ← List.drop_drop, List.take_append_drop]
            have := key m 0 xs vs (by omega) (by rw [← List.range_eq_range']; exact hm) (by simpa [flatW] using hf)
            simpa using this
          · cases h
        | _ => simp [tiles, hu] at ht
/-- The variable holds these cells. -/
def VarIs (P : Program) (w : World) (name : String) (vs : List Value) : Prop := w.var? P name = some vs.toArray
theorem varIs_of_laid {P : Program} {W : World} {name : String} {D : DataW Unit} {vs : List Value} {g : Nat} {t : TypeId} (n : Nat)
    (hg : P.globalNamed name = some g) (hty : (P.globals[g]?).map (·.type) = some t) (ht : tiles P n t = true) (hf : flatW D = some vs) :
    ∀ {l : List (String × DataW Unit)} {ps : List MemPlace}, (name, D) ∈ l → DataW.LaidVars P W l ps → VarIs P W name vs := by
  intro l
  induction l with
  | nil => intro ps h; cases h
  | cons x l ih =>
    intro ps hm h
    obtain ⟨nm, E⟩ := x
    obtain ⟨g', t', cs, fuel, p, q, hg', ht', hvar, hd, hr, _⟩ := h
    rcases List.mem_cons.1 hm with h | h
    · injection h with h1 h2
      subst h1 h2
      obtain rfl := Option.some.inj (hg.symm.trans hg')
      obtain rfl := Option.some.inj (hty.symm.trans ht')
      unfold VarIs
      rw [hvar, ← flat_cells n _ _ _ _ _ _ ht hd hf]
    · exact ih h hr
theorem varIs {P : Program} {W : World} {name : String} {D : DataW Unit} {vs : List Value} {g : Nat} {t : TypeId} {l : List (String × DataW Unit)} (n : Nat)
    (h : laidMetH P l W) (hp : (l.filter fun x => x.2.handleName?.isSome) = []) (hm : (name, D) ∈ l)
    (hg : P.globalNamed name = some g) (hty : (P.globals[g]?).map (·.type) = some t) (ht : tiles P n t = true) (hf : flatW D = some vs) : VarIs P W name vs := by
  unfold laidMetH at h
  rw [hp] at h
  obtain ⟨ps, h, _⟩ := h
  exact varIs_of_laid n hg hty ht hf hm h
theorem VarIs.cell {P : Program} {W : World} {name : String} {vs : List Value} {g : Nat} (h : VarIs P W name vs) (hg : P.globalNamed name = some g) (i : Nat) : W.cell? ⟨g, i, none⟩ = vs[i]? := by
  rw [World.var?_cell hg h i]; simp
end Go.Proofs.YtmcgllcoadbnpaaDoor.Flat
end

section
/- RefsOne and RefsChecks over programs that are read as data; the tables as the program lays them. -/
namespace Go.Proofs.YtmcgllcoadbnpaaDoor
open Go Go.RowKit Go.Proofs.YtmcgllcoadbnpaaDoorW.PrintWords Go.Proofs.YtmcgllcoadbnpaaDoor.PRf Go.Proofs.YtmcgllcoadbnpaaDoor.Given
set_option linter.unusedVariables false
namespace RfRow
theorem laidOps_of {l : List (String × DataW Unit)} {w : World} (h : laidMetH Tryd.prog l w) (hp : (l.filter fun x => x.2.handleName?.isSome) = []) (hm : ("ladderback/op.rows", Rows.laid_ladderback_op_rows) ∈ l) : LaidOps w := by
  have hv := Flat.varIs (name := "ladderback/op.rows") (D := Rows.laid_ladderback_op_rows) (vs := opsV) (g := 0) (t := 78) 6 h hp hm (by kernel_rfl) (by kernel_rfl) (by kernel_rfl) (by rfl)
  intro i v hi
  rw [hv.cell (by kernel_rfl), hi]
theorem laidGoes_of {l : List (String × DataW Unit)} {w : World} (h : laidMetH Tryd.prog l w) (hp : (l.filter fun x => x.2.handleName?.isSome) = []) (hm : ("ladderback/alu.goes", Rows.laid_ladderback_alu_goes) ∈ l) : LaidGoes w := by
  have hv := Flat.varIs (name := "ladderback/alu.goes") (D := Rows.laid_ladderback_alu_goes) (vs := nums .i64 goesV) (g := 1) (t := 79) 6 h hp hm (by kernel_rfl) (by kernel_rfl) (by kernel_rfl) (by rfl)
  intro i v hi
  rw [hv.cell (by kernel_rfl), hi]
set_option maxRecDepth 100000 in
theorem laidBlk_of {l : List (String × DataW Unit)} {w : World} (h : laidMetH Tryd.prog l w) (hp : (l.filter fun x => x.2.handleName?.isSome) = []) (hm : ("ladderback/block.rows", Rows.laid_ladderback_block_rows) ∈ l) : LaidBlk w := by
  have hv := Flat.varIs (name := "ladderback/block.rows") (D := Rows.laid_ladderback_block_rows) (vs := blkV) (g := 2) (t := 88) 8 h hp hm (by kernel_rfl) (by kernel_rfl) (by kernel_rfl) (by rfl)
  intro i v hi
  rw [hv.cell (by kernel_rfl), hi]
theorem laid_of {l : List (String × DataW Unit)} {w : World} (h : laidMetH Tryd.prog l w) (hp : (l.filter fun x => x.2.handleName?.isSome) = []) (h1 : ("ladderback/op.rows", Rows.laid_ladderback_op_rows) ∈ l) (h2 : ("ladderback/alu.goes", Rows.laid_ladderback_alu_goes) ∈ l) (h3 : ("ladderback/block.rows", Rows.laid_ladderback_block_rows) ∈ l) : LaidAll w :=
  ⟨laidOps_of h hp h1, laidGoes_of h hp h2, laidBlk_of h hp h3⟩
theorem rd_int : Bridge.Rdga Tryd.prog 3 (Kd.int .i64) (fun a => (Lit.int .i64 a).wf = true) := Bridge.Rdg.int Tryd.underlying3 (by kernel_rfl)
theorem rd_ints : Bridge.Rdga Tryd.prog 40 (Kd.slice 3 (Kd.int .i64)) (fun l => ∀ a ∈ l, (Lit.int .i64 a).wf = true) := Bridge.Rdg.slicea Tryd.underlying40 (by kernel_rfl) rd_int
theorem rd_str : Bridge.Rdga Tryd.prog 9 Kd.string (fun s => s.size ≤ 9223372036854775807) := Bridge.Rdg.string Tryd.underlying9 (by kernel_rfl)
theorem rd_instr : Bridge.Rdga Tryd.prog 29 k29 (fun _ => True) := fun m =>
  Bridge.Rdg.imp (Bridge.Rdg.iso (fun x : S29 => (x.f0, x.f1, x.f2)) (fun p => ⟨p.1, p.2.1, p.2.2⟩) (fun _ => rfl)
    (Bridge.Rdg.structa Tryd.underlying29 (by kernel_rfl) (fun m => Bridge.RdgF.cons rfl (rd_int m) (Bridge.RdgF.cons rfl (rd_int m) (Bridge.RdgF.one rfl (rd_int m)))) m)) (fun _ _ => trivial)
theorem rd_const : Bridge.Rdga Tryd.prog 35 k35 (fun _ => True) := fun m =>
  Bridge.Rdg.imp (Bridge.Rdg.iso (fun x : S35 => (x.f0, x.f1)) (fun p => ⟨p.1, p.2⟩) (fun _ => rfl)
    (Bridge.Rdg.structa Tryd.underlying35 (by kernel_rfl) (fun m => Bridge.RdgF.cons rfl (rd_int m) (Bridge.RdgF.one rfl (rd_int m))) m)) (fun _ _ => trivial)
theorem rd_var : Bridge.Rdga Tryd.prog 37 k37 (fun _ => True) := fun m =>
  Bridge.Rdg.imp (Bridge.Rdg.iso (fun x : S37 => (x.f0, x.f1, x.f2, x.f3, x.f4)) (fun p => ⟨p.1, p.2.1, p.2.2.1, p.2.2.2.1, p.2.2.2.2⟩) (fun _ => rfl)
    (Bridge.Rdg.structa Tryd.underlying37 (by kernel_rfl) (fun m => Bridge.RdgF.cons rfl (rd_str m) (Bridge.RdgF.cons rfl (rd_int m) (Bridge.RdgF.cons rfl (rd_int m) (Bridge.RdgF.cons rfl (rd_int m) (Bridge.RdgF.one rfl (rd_int m)))))) m)) (fun _ _ => trivial)
theorem rd_block : Bridge.Rdga Tryd.prog 39 k39 (fun _ => True) := fun m =>
  Bridge.Rdg.imp (Bridge.Rdg.iso (fun x : S39 => (x.f0, x.f1)) (fun p => ⟨p.1, p.2⟩) (fun _ => rfl)
    (Bridge.Rdg.structa Tryd.underlying39 (by kernel_rfl) (fun m => Bridge.RdgF.cons rfl (rd_str m) (Bridge.RdgF.one rfl (rd_int m))) m)) (fun _ _ => trivial)
theorem rd_instrs : Bridge.Rdga Tryd.prog 41 (Kd.slice 29 k29) (fun l => ∀ a ∈ l, True) := Bridge.Rdg.slicea Tryd.underlying41 (by kernel_rfl) rd_instr
theorem rd_unit : Bridge.Rdga Tryd.prog 43 k43 (fun _ => True) := fun m =>
  Bridge.Rdg.imp (Bridge.Rdg.iso (fun x : S43 => (x.f0, x.f1, x.f2, x.f3, x.f4)) (fun p => ⟨p.1, p.2.1, p.2.2.1, p.2.2.2.1, p.2.2.2.2⟩) (fun _ => rfl)
    (Bridge.Rdg.structa Tryd.underlying43 (by kernel_rfl) (fun m => Bridge.RdgF.cons rfl (rd_str m) (Bridge.RdgF.cons rfl (rd_ints m) (Bridge.RdgF.cons rfl (rd_int m) (Bridge.RdgF.cons rfl (rd_ints m) (Bridge.RdgF.one rfl (rd_instrs m)))))) m)) (fun _ _ => trivial)
/-- A program as data: its constants, variables, blocks, units. -/
def KProg : Kd (List S35 × List S37 × List S39 × List S43) := Kd.pair (Kd.slice 35 k35) (Kd.pair (Kd.slice 37 k37) (Kd.pair (Kd.slice 39 k39) (Kd.slice 43 k43)))
theorem rd_prog : Bridge.Rdga Tryd.prog 27 KProg (fun _ => True) := fun m => Bridge.Rdg.imp ((Bridge.Rdg.structa Tryd.underlying27 (by kernel_rfl) (fun m => Bridge.RdgF.cons rfl (Bridge.Rdg.slicea Tryd.underlying22 (by kernel_rfl) rd_const m) (Bridge.RdgF.cons rfl (Bridge.Rdg.slicea Tryd.underlying23 (by kernel_rfl) rd_var m) (Bridge.RdgF.cons rfl (Bridge.Rdg.slicea Tryd.underlying24 (by kernel_rfl) rd_block m) (Bridge.RdgF.one rfl (Bridge.Rdg.slicea Tryd.underlying25 (by kernel_rfl) rd_unit m)))))) m) (fun _ _ => trivial)
theorem prog_of {w : World} {x : List S35 × List S37 × List S39 × List S43} {cs : Array Value} (h : KProg.K w x cs.toList) : ∃ A0 c0 A1 c1 A2 c2 A3 c3, cs = #[.slice A0 x.1.length c0, .slice A1 x.2.1.length c1, .slice A2 x.2.2.1.length c2, .slice A3 x.2.2.2.length c3] ∧ (Kd.C k35 w A0 x.1.length x.1 ∧ x.1.length ≤ c0) ∧ (Kd.C k37 w A1 x.2.1.length x.2.1 ∧ x.2.1.length ≤ c1) ∧ (Kd.C k39 w A2 x.2.2.1.length x.2.2.1 ∧ x.2.2.1.length ≤ c2) ∧ (Kd.C k43 w A3 x.2.2.2.length x.2.2.2 ∧ x.2.2.2.length ≤ c3) := by
  obtain ⟨C, V, B, U⟩ := x
  obtain ⟨_, _, h0, ⟨A0, c0, rfl, l0, g0⟩, _, _, rfl, ⟨A1, c1, rfl, l1, g1⟩, _, _, rfl, ⟨A2, c2, rfl, l2, g2⟩, ⟨A3, c3, rfl, l3, g3⟩⟩ := h
  refine ⟨A0, c0, A1, c1, A2, c2, A3, c3, ?_, ⟨g0, l0⟩, ⟨g1, l1⟩, ⟨g2, l2⟩, ⟨g3, l3⟩⟩
  rw [show cs = cs.toList.toArray by simp, h0]
  rfl
theorem instr_of {w : World} {x : S29} {cs : Array Value} (h : k29.K w x cs.toList) : cs = #[.int .i64 x.f0, .int .i64 x.f1, .int .i64 x.f2] := by
  have := k29_open h
  rw [show cs = cs.toList.toArray by simp, this]
end RfRow
theorem RefsOne_walk (cs : Array Value) (x : List S35 × List S37 × List S39 × List S43) (u : Int) (ci : Array Value) (i : S29) (w : World) (hk : RfRow.KProg.K w x cs.toList) (wf : True) (wu : (Lit.int .i64 u).wf = true) (hi : k29.K w i ci.toList) (wi : True) (hL : laidMetH Tryd.prog Rows.refsOneRow.laid w) :
    Calls Tryd.prog 4 #[.agg cs, .int .i64 u, .agg ci] w fun e w' => e = .returned (.bool true) ∧ Below w.heap.size w w' := by
  obtain ⟨A0, c0, A1, c1, A2, c2, A3, c3, rfl, ⟨g0, l0⟩, ⟨g1, l1⟩, ⟨g2, l2⟩, ⟨g3, l3⟩⟩ := RfRow.prog_of hk
  obtain rfl := RfRow.instr_of hi
  exact ladderbacklaw18_RefsOne.calls 6000 A0 c0 x.1 A1 c1 x.2.1 A2 c2 x.2.2.1 A3 c3 x.2.2.2 u i.f0 i.f1 i.f2 true w g0 l0 g1 l1 g2 l2 g3 l3 (RPure.RefsOne _ _ _ _ _ _ _ _) (RfRow.laid_of hL rfl (by simp [Rows.refsOneRow]) (by simp [Rows.refsOneRow]) (by simp [Rows.refsOneRow]))
end Go.Proofs.YtmcgllcoadbnpaaDoor
end

section
/- The law RefsOne holds for every input: the walk over its code shows that the call returns true and that what was read stays as it was; the row follows. The package-level tables that the code reads are tied to the program's text by the given tie. -/
namespace Go.Proofs.YtmcgllcoadbnpaaDoor.refsOneRw
open Go.ChangeShapes Go.WideShapes Go.ChangeAt Go.RowKit
open Go.ChangeMaps (open_string shut_string)
open Go.Proofs.YtmcgllcoadbnpaaDoor.Bridge
set_option linter.unusedVariables false
set_option linter.unusedSimpArgs false
theorem own : ownKnob Tryd.prog.godebug = none := by kernel_rfl
theorem laidOut : laidOutB Tryd.prog = true := by kernel_rfl
theorem contract (H : Type) (enc : TypeId × Value → H) (W : World) (base : Nat) (args : Array Value) (ds gs : List (DataW H)) (before : List MemPlace)
    (hval : ∀ (j : Nat) t v, Tryd.f4.params[j]? = some t → args[j]? = some v → Value.okWide Tryd.prog W .any base t v)
    (hW : DataW.Whole enc Tryd.prog Tryd.f4.params.toList Rows.refsOneSpec.vars false W args.toList ds gs before) (hsz : (DataW.weightsEach Tryd.prog (Tryd.f4.params.toList ++ Rows.refsOneSpec.plain.varTypes Tryd.prog) (ds ++ gs)).all (· ≤ reachBytes) = true) (hL : laidMetH Tryd.prog Rows.refsOneRow.laid W) :
    Calls Tryd.prog 4 args W fun e W' => ∃ v, e = .returned v ∧ Rows.refsOneSpec.post enc Tryd.prog Tryd.f4 false true false false W args v W' := by
  have hW' := hW
  obtain ⟨p, q, hA0, hV, rfl, hfz, hnd⟩ := hW
  have hA : DataW.TrodAll enc Tryd.prog W 0 (fun _ => true) true Tryd.f4.params.toList args.toList ds p := hA0
  rw [Tryd.params4] at hA hval hsz
  obtain ⟨v0, vs0, d0, ds0, p0, q0, hargs, rfl, rfl, h0, r0⟩ := trodAll_cons hA
  obtain ⟨v1, vs1, d1, ds1, p1, q1, rfl, rfl, rfl, h1, r1⟩ := trodAll_cons r0
  obtain ⟨v2, vs2, d2, ds2, p2, q2, rfl, rfl, rfl, h2, r2⟩ := trodAll_cons r1
  obtain ⟨rfl, rfl, rfl⟩ := trodAll_nil r2
  obtain rfl : args = #[v0, v1, v2] := by cases args; simp_all
  obtain ⟨rfl, rfl⟩ := trodVars_none hV
  clear hA0
  have k0 := h0
  have lt0 : ∀ x ∈ p0, x.block < W.heap.size := by obtain ⟨m, hm⟩ := k0; exact DataW.trod_lt m _ _ _ hm
  obtain ⟨cs0, rfl⟩ : ∃ cs, v0 = .agg cs := by
    have z := (hval 0 27 v0 rfl rfl)
    unfold Value.okWide at z
    rw [Tryd.underlying27] at z
    obtain ⟨cs, e, _⟩ := z
    exact ⟨cs, e⟩
  obtain ⟨x0, hk0, wf0⟩ := Rdga.trod RfRow.rd_prog h0
  have k1 := h1
  have lt1 : ∀ x ∈ p1, x.block < W.heap.size := by obtain ⟨m, hm⟩ := k1; exact DataW.trod_lt m _ _ _ hm
  obtain ⟨a1, rfl, _, _, w1⟩ := open_int Tryd.underlying3 (hval 1 3 v1 rfl rfl) h1
  have k2 := h2
  have lt2 : ∀ x ∈ p2, x.block < W.heap.size := by obtain ⟨m, hm⟩ := k2; exact DataW.trod_lt m _ _ _ hm
  obtain ⟨cs2, rfl⟩ : ∃ cs, v2 = .agg cs := by
    have z := (hval 2 29 v2 rfl rfl)
    unfold Value.okWide at z
    rw [Tryd.underlying29] at z
    obtain ⟨cs, e, _⟩ := z
    exact ⟨cs, e⟩
  obtain ⟨x2, hk2, wf2⟩ := Rdga.trod RfRow.rd_instr h2
  refine (RefsOne_walk cs0 x0 a1 cs2 x2 W hk0 wf0 w1 hk2 wf2 hL).mono fun e W' ⟨he, bel⟩ => ?_
  subst he
  exact ⟨_, rfl, _, _, _, [], _, [], hW', trodAll_mk1 (shut_bool Tryd.underlying4 _), (trodAll_cons_mk (Below.trod laidOut (by kernel_rfl) (of_decide_eq_true (by kernel_rfl)) k0 bel lt0) (trodAll_cons_mk (Below.trod laidOut (by kernel_rfl) (of_decide_eq_true (by kernel_rfl)) k1 bel lt1) (trodAll_cons_mk (Below.trod laidOut (by kernel_rfl) (of_decide_eq_true (by kernel_rfl)) k2 bel lt2) trodAll_mk0))), rfl, bel.frame _, fun h => by cases h⟩
theorem laid_met (os : Os) : laidMetH Tryd.prog Rows.refsOneRow.laid ((World.doorLaid Tryd.prog 4000 os).forCall (fun _ _ => 0) ⟨#[], #[.agg #[.slice none 0 0, .slice none 0 0, .slice none 0 0, .slice none 0 0], .int .i64 0, .agg #[.int .i64 0, .int .i64 0, .int .i64 0]], []⟩).memory :=
  laidMetH_of_parts3 (fuel := 12) (laidMet_of_run' 12 (by kernel_rfl) (by kernel_rfl)) (by kernel_rfl) (by kernel_rfl)
theorem reads (os : Os) {H : Type} (enc : TypeId × Value → H) : ∃ ds places, DataW.whole enc Tryd.prog ((World.doorLaid Tryd.prog 4000 os).forCall (fun _ _ => 0) ⟨#[], #[.agg #[.slice none 0 0, .slice none 0 0, .slice none 0 0, .slice none 0 0], .int .i64 0, .agg #[.int .i64 0, .int .i64 0, .int .i64 0]], []⟩).memory Tryd.f4.params.toList Rows.refsOneSpec.vars false (#[.agg #[.slice none 0 0, .slice none 0 0, .slice none 0 0, .slice none 0 0], .int .i64 0, .agg #[.int .i64 0, .int .i64 0, .int .i64 0]] : Array Value).toList 8 = some (ds, [], places) :=
  ⟨[.agg [.nil, .nil, .nil, .nil], .lit (.int .i64 0), .agg [.lit (.int .i64 0), .lit (.int .i64 0), .lit (.int .i64 0)]], [], by kernel_rfl⟩
set_option maxRecDepth 100000 in
theorem lifted (os : Os) (started : os.Started) (H : Type) (enc : TypeId × Value → H) (F : Stop.Interp) :
    ReturnsInHanded {} Tryd.checked os 4 .any ((OpenSpec.ofChange Rows.refsOneSpec).preRow enc Tryd.prog Tryd.f4 Rows.refsOneRow.domain false Rows.refsOneRow.laid) (((OpenSpec.ofChange Rows.refsOneSpec).at F).post enc Tryd.prog Tryd.f4 false true false false) := by
  obtain ⟨ds, places, hx⟩ := reads os enc
  refine returnsInHanded_of_row (C := Tryd.checked) (s := OpenSpec.ofChange Rows.refsOneSpec) own started (by kernel_rfl) Tryd.func4
    (witness_row_at (enc := enc) (C := Tryd.checked) false (World.doorLaid Tryd.prog 4000 os) #[.agg #[.slice none 0 0, .slice none 0 0, .slice none 0 0, .slice none 0 0], .int .i64 0, .agg #[.int .i64 0, .int .i64 0, .int .i64 0]] rfl (by kernel_rfl) (by kernel_rfl) (by kernel_rfl)
      (OpenSpec.preRow_of_cond 8 hx (by kernel_rfl) (fun k hk => by cases hk) (by kernel_rfl) (laid_met os))) ?_
  intro W base args ds gs before hval hW _ _ hsz hL _ _
  exact contract H enc W base args ds gs before hval hW hsz hL
theorem said : Rows.RefsOneSaid :=
  OpenClaim.holds_of_cond 4 Tryd.f4 rfl rfl rfl rfl rfl rfl rfl ⟨rfl, rfl, rfl, rfl, rfl⟩ rfl rfl rfl rfl rfl (by kernel_rfl) Tryd.func4 (by kernel_rfl)
    (of_decide_eq_true (by kernel_rfl)) (by unfold Func.isWrapper; first | (rw [if_pos (by decide +kernel)]; kernel_rfl) | (rw [if_neg (by decide +kernel)]; exact ⟨rfl, rfl⟩))
    (fun os started H enc _ F => by rw [OpenClaim.pre_eq_preRow]; exact lifted os started H enc F)
theorem plain (f : FuncId) (fn : Func) (hf : Tryd.pinned.checked.prog.funcNamed "ladderback/ladderbacklaw18.RefsOne" = some f) (hfn : Tryd.pinned.checked.prog.funcs[f]? = some fn) :
    false = Tryd.pinned.checked.prog.looks [] ∧ ∀ (j : Nat) t, fn.params[j]? = some t → Tryd.pinned.checked.prog.wantsStandIn t = false := by
  obtain rfl : f = 4 := Option.some.inj ((show Tryd.prog.funcNamed "ladderback/ladderbacklaw18.RefsOne" = some 4 by kernel_rfl).symm.trans hf) |>.symm
  obtain rfl : fn = Tryd.f4 := (Option.some.inj (Tryd.func4.symm.trans hfn)).symm
  refine ⟨by kernel_rfl, fun j t ht => ?_⟩
  rw [Tryd.params4] at ht
  have hm : t ∈ [27, 3, 29] := by simpa using Array.mem_of_getElem? ht
  have hall : ([27, 3, 29].all fun u => !Tryd.prog.wantsStandIn u) = true := by kernel_rfl
  exact (show Tryd.prog.wantsStandIn t = false by simpa using List.all_eq_true.1 hall t hm)
theorem card : Rows.RefsOneCardSaid :=
  Claim7.holds_tied_plain_at .later [] _ _ _ _ said (fun _ h => by cases h) (by kernel_rfl) (fun _ h => by cases h) refsOne_row_tie rfl ⟨rfl, rfl⟩ (by kernel_rfl) rfl plain (by kernel_rfl)
end Go.Proofs.YtmcgllcoadbnpaaDoor.refsOneRw
namespace Go.Proofs.YtmcgllcoadbnpaaDoor
theorem refsOne_holds : Rows.RefsOneCardSaid := refsOneRw.card
#print axioms refsOne_holds
end Go.Proofs.YtmcgllcoadbnpaaDoor
end

/- Instructions' bytes, plainly: what is encoded, and what bytes say; the program's and the document's tell the same. -/
import Derived.Test.YthbcliofjfhmbaaDoorPUnix2
import Derived.Test.YthbcliofjfhmbaaDoorPUnix4
import Derived.Test.YthbcliofjfhmbaaDoorCodOne
namespace Go.Proofs.YthbcliofjfhmbaaDoor.UPure
open Go.RowKit Go.Proofs.YthbcliofjfhmbaaDoor.PUni Go.Proofs.YthbcliofjfhmbaaDoor.Given Go.Proofs.YthbcliofjfhmbaaDoorW.PrintWords Go.Proofs.YthbcliofjfhmbaaDoorW.PrintLast
set_option linter.unusedVariables false
set_option linter.unusedSimpArgs false
theorem w64 (x : Int) (h0 : -9223372036854775808 ≤ x) (h1 : x < 9223372036854775808) : wrap64 x = x := by unfold wrap64; omega
def mayF (n w : Int) : Bool := if w = 0 then n == 0 else decide (0 ≤ n) && decide (n ≤ 65535)
theorem may_is (n w : Int) : op_may.f n w = some (mayF n w) := by
  unfold op_may.f mayF
  by_cases h : w = 0
  · rw [if_pos h, if_pos h]
  · rw [if_neg h, if_neg h]
    by_cases h0 : 0 ≤ n
    · rw [if_pos h0]; simp [h0]
    · rw [if_neg h0]; simp [h0]
theorem is_is (x : Int) : op_Is.f x = some (isOp x) := by
  unfold op_Is.f isOp
  by_cases h0 : 0 ≤ x
  · rw [if_pos h0]; simp [h0]
  · rw [if_neg h0]; simp [h0]
theorem right_is (x y z : Int) : right3 x y z = (isOp x && mayF y (shapeA x) && mayF z (shapeB x)) := by
  have h : op_Right.f x y z = some (right3 x y z) := right_some x y z
  have h2 : op_Right.f x y z = some (isOp x && mayF y (shapeA x) && mayF z (shapeB x)) := by
    unfold op_Right.f op_Shape.f
    simp only [Option.bind_some, is_is, may_is]
    cases isOp x <;> cases mayF y (shapeA x) <;> simp
  exact Option.some.inj (h.symm.trans h2)
theorem rmay_is (n w : Int) : ladderbackref12_may.f n w = some (mayF n w) := by
  unfold ladderbackref12_may.f mayF
  by_cases hn : n = 0
  · rw [if_pos hn]; subst hn; by_cases h : w = 0 <;> simp [h]
  · rw [if_neg hn]
    by_cases h : w = 0
    · rw [if_pos h, if_pos h]; simp [hn]
    · rw [if_neg h, if_neg h]
      by_cases h0 : n > 0
      · rw [if_pos h0]
        congr 1
        rw [Bool.eq_iff_iff]
        simp
        omega
      · rw [if_neg h0]
        congr 1
        rw [Bool.eq_iff_iff]
        simp
        omega
theorem shapes : ∀ n : Fin 38, ladderbackref12_Shape.f 3 (n.val : Int) = some (shapeA n.val, shapeB n.val) := by decide +kernel
theorem shape_more (x : Int) : ∀ d, ladderbackref12_Shape.f 3 x = some (shapeA x, shapeB x) → ladderbackref12_Shape.f (3 + d) x = some (shapeA x, shapeB x) := by
  intro d h
  induction d with
  | zero => exact h
  | succ d ih => exact ladderbackref12_Shape.mono x (3 + d) _ ih
theorem rshape (x : Int) (k : Nat) (hk : 3 ≤ k) : ladderbackref12_Shape.f k x = some (shapeA x, shapeB x) := by
  rw [show k = 3 + (k - 3) by omega]
  refine shape_more x _ ?_
  by_cases h : isOp x = true
  · unfold isOp at h
    simp only [Bool.and_eq_true, decide_eq_true_eq] at h
    obtain ⟨n, rfl⟩ := Int.eq_ofNat_of_zero_le h.1
    exact shapes ⟨n, by omega⟩
  · unfold shapeA shapeB
    rw [if_neg h, if_neg h]
    unfold isOp at h
    simp only [Bool.and_eq_true, decide_eq_true_eq, not_and] at h
    unfold ladderbackref12_Shape.f
    by_cases h0 : x < 0
    · rw [if_pos h0]; rfl
    · rw [if_neg h0, decide_eq_true (by omega)]; rfl
theorem rright (x y z : Int) (k : Nat) (hk : 3 ≤ k) : ladderbackref12_Right.f k x y z = some (right3 x y z) := by
  rw [right_is]
  unfold ladderbackref12_Right.f
  rw [rshape x k hk]
  simp only [Option.bind_some, rmay_is]
  unfold isOp
  by_cases h0 : x ≥ 0
  · rw [if_pos h0]
    by_cases h1 : x ≤ 37
    · rw [if_pos h1, decide_eq_true (show 0 ≤ x from h0), decide_eq_true (show x < 38 by omega)]
      cases mayF y (shapeA x) <;> simp
    · rw [if_neg h1, decide_eq_false (show ¬ x < 38 by omega)]; simp
  · rw [if_neg h0, decide_eq_false h0]; simp
theorem real_is (x : Int) : isReal x = (decide (48 ≤ x) && decide (x ≤ 55)) := by
  have h := real_some x
  unfold POp.op_Real.f at h
  by_cases h0 : x ≥ 48
  · rw [if_pos h0] at h
    rw [← Option.some.inj h]; simp [h0]
  · rw [if_neg h0] at h
    rw [← Option.some.inj h]; simp [h0]
end Go.Proofs.YthbcliofjfhmbaaDoor.UPure

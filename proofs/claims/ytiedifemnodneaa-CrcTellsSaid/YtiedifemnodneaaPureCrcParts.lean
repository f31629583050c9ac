/- What CrcParts computes is true for every state and any bytes. -/
import Derived.Test.YtiedifemnodneaaPCrcx1
import Derived.Test.YtiedifemnodneaaCrcMath
import Derived.DataShut
namespace Go.Proofs.Ytiedifemnodneaa.Pure
open Go.RowKit Go.Proofs.Ytiedifemnodneaa.PCrc Go.Proofs.YtiedifemnodneaaW.PrintWords Go.Proofs.YtiedifemnodneaaW.PrintLast Go.Proofs.Ytiedifemnodneaa.Given
theorem byte_of_wf (x : Int) (h : (Lit.int .u8 x).wf = true) : 0 ≤ x ∧ x < 256 := by
  have h := (Lit.wf_int_iff .u8 x).1 h
  have h1 : IntKind.u8.min = 0 := by decide
  have h2 : IntKind.u8.max = 255 := by decide
  omega
theorem CrcParts : ladderbacklaw02_CrcParts.Pure := by
  intro a0 l1 l2 w0 h1 _ w1 h2 _ w2
  refine ⟨1, ?_⟩
  unfold ladderbacklaw02_CrcParts.f
  have b1 := fun x hx => byte_of_wf x (w1 x hx)
  have b2 := fun x hx => byte_of_wf x (w2 x hx)
  by_cases c1 : (l1.length : Int) > 500
  · rw [if_pos c1]
    rfl
  rw [if_neg c1]
  by_cases c2 : (l2.length : Int) > 500
  · rw [decide_eq_true c2]
    rfl
  rw [decide_eq_false c2]
  have o1 : okB l1 := ⟨by omega, b1⟩
  have o2 : okB l2 := ⟨by omega, b2⟩
  have o3 : okB (l1 ++ l2) := ⟨by rw [List.length_append]; omega, fun x hx => (List.mem_append.1 hx).elim (b1 x) (b2 x)⟩
  simp only [ladderbacklaw02_CrcParts.j0, Option.bind_some, List.nil_append, List.length_nil, crc_Over.f, ladderbacklaw02_awake.f]
  rw [if_neg (by decide), if_pos (by omega), if_pos (by omega), if_pos o1]
  simp only [Option.bind_some]
  rw [if_pos o2, if_pos o3]
  simp only [Option.bind_some]
  rw [if_pos (overF_append a0 l1 l2).symm]
end Go.Proofs.Ytiedifemnodneaa.Pure

/- What CrcTells computes is true for any bytes, place and byte. -/
import Derived.Test.YtiedifemnodneaaPureCrcParts
namespace Go.Proofs.Ytiedifemnodneaa.Pure
open Go.RowKit Go.Proofs.Ytiedifemnodneaa.PCrc Go.Proofs.YtiedifemnodneaaW.PrintWords Go.Proofs.YtiedifemnodneaaW.PrintLast Go.Proofs.Ytiedifemnodneaa.Given
theorem CrcTells : ladderbacklaw02_CrcTells.Pure := by
  intro l0 a1 a2 h1 _ w1 wa wb
  refine ⟨1, ?_⟩
  have b1 := fun x hx => byte_of_wf x (w1 x hx)
  have b2 := byte_of_wf a2 wb
  unfold ladderbacklaw02_CrcTells.f
  have early : ∀ l0, ladderbacklaw02_CrcTells.j0 1 l0 a1 a2 true = some true := fun _ => rfl
  by_cases c1 : (l0.length : Int) > 500
  · rw [if_pos c1, early]
  rw [if_neg c1]
  by_cases c2 : a1 < 0
  · rw [if_pos c2, early]
  rw [if_neg c2]
  by_cases c3 : a1 ≥ (l0.length : Int)
  · rw [if_pos c3, early]
  rw [if_neg c3, if_pos (by omega), if_pos (by omega)]
  by_cases c4 : rd l0 a1 = a2
  · rw [show (rd l0 a1 == a2) = true by simp [c4], early]
  have hi : a1.toNat < l0.length := by omega
  have hrd : rd l0 a1 = l0[a1.toNat] := by
    simp [rd, List.getD_eq_getElem?_getD, hi]
  rw [show (rd l0 a1 == a2) = false by simp [c4]]
  have o1 : okB l0 := ⟨by omega, b1⟩
  have o2 : okB (l0.set a1.toNat a2) := ⟨by rw [List.length_set]; omega, fun x hx => (List.mem_or_eq_of_mem_set hx).elim (b1 x) (fun e => e ▸ b2)⟩
  simp only [ladderbacklaw02_CrcTells.j0, Option.bind_some, List.nil_append, List.length_nil, crc_Of.f, ladderbacklaw02_awake.f]
  rw [if_neg (by decide), if_pos (by omega), if_pos (by omega), if_pos (by omega), if_pos o2]
  simp only [Option.bind_some]
  rw [if_pos o1]
  simp only [Option.bind_some]
  rw [if_neg]
  intro h
  exact overF_tells 4294967295 (by decide) l0 b1 a1.toNat hi a2 b2 (by rw [← hrd]; exact c4) (by omega)
end Go.Proofs.Ytiedifemnodneaa.Pure

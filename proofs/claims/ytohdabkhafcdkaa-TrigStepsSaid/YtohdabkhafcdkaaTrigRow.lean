/- The walk of TrigSteps over a block that is read as data: any kind, any block. -/
import Derived.Test.YtohdabkhafcdkaaBridgeArr
import Derived.Test.YtohdabkhafcdkaaTrigLaw
namespace Go.Proofs.Ytohdabkhafcdkaa
open Go Go.RowKit Go.Proofs.YtohdabkhafcdkaaW.PrintWords
def KInst : Kd (List Int) := Kd.arr 10 (Kd.int .i64) (by decide)
theorem rd_inst : Bridge.Rdga Try.prog 24 KInst (fun l => ∀ a ∈ l, (Lit.int .i64 a).wf = true) :=
  Bridge.Rdg.structa Try.underlying24 (by kernel_rfl) (fun m => Bridge.RdgF.one rfl (Bridge.Rdg.arraya Try.underlying22 (by kernel_rfl) (Bridge.Rdg.int Try.underlying3 (by kernel_rfl)) m))
theorem ten (xs : List Int) (h : xs.length = 10) : ∃ x0 x1 x2 x3 x4 x5 x6 x7 x8 x9, xs = [x0, x1, x2, x3, x4, x5, x6, x7, x8, x9] := by
  match xs, h with
  | [x0, x1, x2, x3, x4, x5, x6, x7, x8, x9], _ => exact ⟨_, _, _, _, _, _, _, _, _, _, rfl⟩
theorem TrigSteps_walk (kind : Int) (cs : Array Value) (x : List Int) (w : World) (w0 : (Lit.int .i64 kind).wf = true) (hk : KInst.K w x cs.toList) (wf : ∀ a ∈ x, (Lit.int .i64 a).wf = true) :
    Calls Try.prog 3 #[.int .i64 kind, .agg cs] w fun e w' => e = .returned (.bool true) ∧ Below w.heap.size w w' := by
  obtain ⟨hl, hc⟩ := Kd.arr_cells hk
  obtain ⟨x0, x1, x2, x3, x4, x5, x6, x7, x8, x9, rfl⟩ := ten x hl
  obtain rfl : cs = (instL x0 x1 x2 x3 x4 x5 x6 x7 x8 x9).toArray := by
    have : cs = cs.toList.toArray := by simp
    rw [this, hc]
    rfl
  by_cases h7 : kind = 7
  · subst h7
    exact TrigSteps_7 x0 x1 x2 x3 x4 x5 x6 x7 x8 x9 w
  · by_cases h8 : kind = 8
    · subst h8
      exact TrigSteps_8 x0 x1 x2 x3 x4 x5 x6 x7 x8 x9 w
    · exact TrigSteps_other kind x0 x1 x2 x3 x4 x5 x6 x7 x8 x9 w h7 h8
end Go.Proofs.Ytohdabkhafcdkaa

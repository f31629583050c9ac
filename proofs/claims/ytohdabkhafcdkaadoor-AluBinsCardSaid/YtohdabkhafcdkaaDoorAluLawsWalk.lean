/- The walk of AluLaws, where both tables lie as the program lays them. -/
import Derived.Test.YtohdabkhafcdkaaDoorPureAluLaws
import Derived.Test.YtohdabkhafcdkaaDoorFlat
import Derived.Test.YtohdabkhafcdkaaDoorRows
namespace Go.Proofs.YtohdabkhafcdkaaDoor
open Go Go.RowKit Go.Proofs.YtohdabkhafcdkaaDoor.PAlu Go.Proofs.YtohdabkhafcdkaaDoor.Given Go.Proofs.YtohdabkhafcdkaaDoorW.PrintWords
theorem laidAlu_of {l : List (String × DataW Unit)} {w : World} (h : laidMetH Tryd.prog l w) (hp : (l.filter fun x => x.2.handleName?.isSome) = []) (hm : ("ladderback/kind.rows", Rows.laid_ladderback_kind_rows) ∈ l) (hm2 : ("ladderback/alu.goes", Rows.laid_ladderback_alu_goes) ∈ l) : LaidAlu w := by
  have hv := Flat.varIs (name := "ladderback/kind.rows") (D := Rows.laid_ladderback_kind_rows) (vs := rowsV) (g := 0) (t := 46) 6 h hp hm (by kernel_rfl) (by kernel_rfl) (by kernel_rfl) (by rfl)
  have hw := Flat.varIs (name := "ladderback/alu.goes") (D := Rows.laid_ladderback_alu_goes) (vs := nums .i64 goesV) (g := 1) (t := 49) 6 h hp hm2 (by kernel_rfl) (by kernel_rfl) (by kernel_rfl) (by rfl)
  refine ⟨fun i v hi => ?_, fun i v hi => ?_⟩
  · rw [hv.cell (by kernel_rfl), hi]
  · rw [hw.cell (by kernel_rfl), hi]
theorem AluLaws_walk (a0 a1 a2 : Int) (w : World) (w0 : (Lit.int .i64 a0).wf = true) (w1 : (Lit.int .i64 a1).wf = true) (w2 : (Lit.int .i64 a2).wf = true) (hL : laidMetH Tryd.prog Rows.aluLawsRow.laid w) :
    Calls Tryd.prog 7 #[.int .i64 a0, .int .i64 a1, .int .i64 a2] w fun e w' => e = .returned (.bool true) ∧ Below w.heap.size w w' :=
  ladderbacklaw07_AluLaws.walk PureAlu.AluLaws a0 a1 a2 w w0 w1 w2 (laidAlu_of hL rfl (by simp [Rows.aluLawsRow]) (by simp [Rows.aluLawsRow]))
end Go.Proofs.YtohdabkhafcdkaaDoor

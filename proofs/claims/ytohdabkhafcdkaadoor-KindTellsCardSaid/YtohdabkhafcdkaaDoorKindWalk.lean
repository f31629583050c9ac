/- The walks of the three laws of types, where the types' table lies as the program lays it. -/
import Derived.Test.YtohdabkhafcdkaaDoorKindPure
import Derived.Test.YtohdabkhafcdkaaDoorPKindx
import Derived.Test.YtohdabkhafcdkaaDoorFlat
import Derived.Test.YtohdabkhafcdkaaDoorRows
namespace Go.Proofs.YtohdabkhafcdkaaDoor
open Go Go.RowKit Go.Proofs.YtohdabkhafcdkaaDoor.PKind Go.Proofs.YtohdabkhafcdkaaDoor.Given
theorem laidRows_of {l : List (String × DataW Unit)} {w : World} (h : laidMetH Tryd.prog l w) (hp : (l.filter fun x => x.2.handleName?.isSome) = []) (hm : ("ladderback/kind.rows", Rows.laid_ladderback_kind_rows) ∈ l) : LaidRows w := by
  have hv := Flat.varIs (name := "ladderback/kind.rows") (D := Rows.laid_ladderback_kind_rows) (vs := rowsV) (g := 0) (t := 46) 6 h hp hm (by kernel_rfl) (by kernel_rfl) (by kernel_rfl) (by rfl)
  intro i v hi
  rw [hv.cell (by kernel_rfl), hi]
theorem KindWraps_walk (a0 a1 : Int) (w : World) (w0 : (Lit.int .i64 a0).wf = true) (w1 : (Lit.int .i64 a1).wf = true) (hL : laidMetH Tryd.prog Rows.kindWrapsRow.laid w) :
    Calls Tryd.prog 3 #[.int .i64 a0, .int .i64 a1] w fun e w' => e = .returned (.bool true) ∧ Below w.heap.size w w' :=
  ladderbacklaw01_KindWraps.walk Pure.KindWraps a0 a1 w w0 w1 (laidRows_of hL rfl (by simp [Rows.kindWrapsRow]))
theorem KindStays_walk (a0 a1 a2 : Int) (w : World) (w0 : (Lit.int .i64 a0).wf = true) (w1 : (Lit.int .i64 a1).wf = true) (w2 : (Lit.int .i64 a2).wf = true) (hL : laidMetH Tryd.prog Rows.kindStaysRow.laid w) :
    Calls Tryd.prog 4 #[.int .i64 a0, .int .i64 a1, .int .i64 a2] w fun e w' => e = .returned (.bool true) ∧ Below w.heap.size w w' :=
  ladderbacklaw01_KindStays.walk Pure.KindStays a0 a1 a2 w w0 w1 w2 (laidRows_of hL rfl (by simp [Rows.kindStaysRow]))
theorem KindTells_walk (a0 : Int) (a1 : ByteArray) (w : World) (w0 : (Lit.int .i64 a0).wf = true) (w1 : a1.size ≤ 140737488351232) (hL : laidMetH Tryd.prog Rows.kindTellsRow.laid w) :
    Calls Tryd.prog 5 #[.int .i64 a0, .string a1] w fun e w' => e = .returned (.bool true) ∧ Below w.heap.size w w' :=
  ladderbacklaw01_KindTells.walk Pure.KindTells a0 a1 w w0 w1 (laidRows_of hL rfl (by simp [Rows.kindTellsRow]))
end Go.Proofs.YtohdabkhafcdkaaDoor

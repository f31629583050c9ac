/- UnitPuts over units that are read as data: any two units. -/
import Derived.Test.YthbcliofjfhmbaaDoorUniWalk
import Derived.Test.YthbcliofjfhmbaaDoorFlat
import Derived.Test.YthbcliofjfhmbaaDoorBridge
import Derived.Test.YthbcliofjfhmbaaDoorRows
namespace Go.Proofs.YthbcliofjfhmbaaDoor
open Go Go.RowKit Go.Proofs.YthbcliofjfhmbaaDoorW.PrintWords Go.Proofs.YthbcliofjfhmbaaDoor.PUni Go.Proofs.YthbcliofjfhmbaaDoor.Given Go.Proofs.YthbcliofjfhmbaaDoor.UPure
set_option linter.unusedVariables false
namespace UniRow
theorem laidOps_of {l : List (String × DataW Unit)} {w : World} (h : laidMetH Tryd.prog l w) (hp : (l.filter fun x => x.2.handleName?.isSome) = []) (hm : ("ladderback/op.rows", Rows.laid_ladderback_op_rows) ∈ l) : LaidOps w := by
  have hv := Flat.varIs (name := "ladderback/op.rows") (D := Rows.laid_ladderback_op_rows) (vs := opsV) (g := 0) (t := 92) 6 h hp hm (by kernel_rfl) (by kernel_rfl) (by kernel_rfl) (by rfl)
  intro i v hi
  rw [hv.cell (by kernel_rfl), hi]
theorem rd_instr : Bridge.Rdga Tryd.prog 47 k47 (fun _ => True) := fun m =>
  Bridge.Rdg.imp (Bridge.Rdg.iso (fun x : S47 => (x.f0, x.f1, x.f2)) (fun p => ⟨p.1, p.2.1, p.2.2⟩) (fun _ => rfl)
    (Bridge.Rdg.structa Tryd.underlying47 (by kernel_rfl) (fun m => Bridge.RdgF.cons rfl (Bridge.Rdg.int Tryd.underlying3 (by kernel_rfl) m) (Bridge.RdgF.cons rfl (Bridge.Rdg.int Tryd.underlying3 (by kernel_rfl) m) (Bridge.RdgF.one rfl (Bridge.Rdg.int Tryd.underlying3 (by kernel_rfl) m)))) m)) (fun _ _ => trivial)
theorem rd_instrs : Bridge.Rdga Tryd.prog 24 (Kd.slice 47 k47) (fun l => ∀ a ∈ l, True) := Bridge.Rdg.slicea Tryd.underlying24 (by kernel_rfl) rd_instr
theorem rd_ints : Bridge.Rdga Tryd.prog 35 (Kd.slice 3 (Kd.int .i64)) (fun l => ∀ a ∈ l, (Lit.int .i64 a).wf = true) := Bridge.Rdg.slicea Tryd.underlying35 (by kernel_rfl) (Bridge.Rdg.int Tryd.underlying3 (by kernel_rfl))
/-- A unit as data: its name, parameters, result, locals, code. -/
def KUnit : Kd (ByteArray × List Int × Int × List Int × List S47) := Kd.pair Kd.string (Kd.pair (Kd.slice 3 (Kd.int .i64)) (Kd.pair (Kd.int .i64) (Kd.pair (Kd.slice 3 (Kd.int .i64)) (Kd.slice 47 k47))))
theorem rd_unit : Bridge.Rdga Tryd.prog 37 KUnit (fun _ => True) := fun m => Bridge.Rdg.imp ((Bridge.Rdg.structa Tryd.underlying37 (by kernel_rfl) (fun m => Bridge.RdgF.cons rfl (Bridge.Rdg.string Tryd.underlying9 (by kernel_rfl) m) (Bridge.RdgF.cons rfl (rd_ints m) (Bridge.RdgF.cons rfl (Bridge.Rdg.int Tryd.underlying3 (by kernel_rfl) m) (Bridge.RdgF.cons rfl (rd_ints m) (Bridge.RdgF.one rfl (rd_instrs m))))))) m) (fun _ _ => trivial)
theorem unit_of {w : World} {x : ByteArray × List Int × Int × List Int × List S47} {cs : Array Value} (h : KUnit.K w x cs.toList) : ∃ u : UR, cs = u.cells ∧ u.Ok w := by
  obtain ⟨n, P, R, L, C⟩ := x
  obtain ⟨_, _, h0, rfl, _, _, rfl, ⟨A1, c1, rfl, l1, C1⟩, _, _, rfl, rfl, _, _, rfl, ⟨A3, c3, rfl, l3, C3⟩, ⟨A4, c4, rfl, l4, C4⟩⟩ := h
  refine ⟨⟨n, A1, c1, P, R, A3, c3, L, A4, c4, C⟩, ?_, ⟨C1, l1, C3, l3, C4, l4⟩⟩
  rw [show cs = cs.toList.toArray by simp, h0]
  rfl
end UniRow
theorem UnitPuts_walk (cs0 : Array Value) (x0 : ByteArray × List Int × Int × List Int × List S47) (cs1 : Array Value) (x1 : ByteArray × List Int × Int × List Int × List S47) (w : World) (h0 : UniRow.KUnit.K w x0 cs0.toList) (wf0 : True) (h1 : UniRow.KUnit.K w x1 cs1.toList) (wf1 : True) (hL : laidMetH Tryd.prog Rows.unitPutsRow.laid w) :
    Calls Tryd.prog 6 #[.agg cs0, .agg cs1] w fun e w' => e = .returned (.bool true) ∧ Below w.heap.size w w' := by
  obtain ⟨u, rfl, hu⟩ := UniRow.unit_of h0
  obtain ⟨v, rfl, hv⟩ := UniRow.unit_of h1
  exact unitPuts_w u v w hu hv (UniRow.laidOps_of hL rfl (by simp [Rows.unitPutsRow]))
end Go.Proofs.YthbcliofjfhmbaaDoor

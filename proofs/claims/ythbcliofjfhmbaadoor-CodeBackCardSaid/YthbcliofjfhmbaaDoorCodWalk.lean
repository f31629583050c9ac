/- The walks of CodeDecodes and CodeBack, where the operations' table lies as the program lays it. -/
import Derived.Test.YthbcliofjfhmbaaDoorCodPureC
import Derived.Test.YthbcliofjfhmbaaDoorFlat
import Derived.Test.YthbcliofjfhmbaaDoorBridgeOct
import Derived.Test.YthbcliofjfhmbaaDoorRows
namespace Go.Proofs.YthbcliofjfhmbaaDoor
open Go Go.RowKit Go.Proofs.YthbcliofjfhmbaaDoorW.PrintWords Go.Proofs.YthbcliofjfhmbaaDoor.PCod Go.Proofs.YthbcliofjfhmbaaDoor.Given
set_option linter.unusedVariables false
theorem laidOps_of {l : List (String × DataW Unit)} {w : World} (h : laidMetH Tryd.prog l w) (hp : (l.filter fun x => x.2.handleName?.isSome) = []) (hm : ("ladderback/op.rows", Rows.laid_ladderback_op_rows) ∈ l) : LaidOps w := by
  have hv := Flat.varIs (name := "ladderback/op.rows") (D := Rows.laid_ladderback_op_rows) (vs := opsV) (g := 0) (t := 92) 6 h hp hm (by kernel_rfl) (by kernel_rfl) (by kernel_rfl) (by rfl)
  intro i v hi
  rw [hv.cell (by kernel_rfl), hi]
theorem rd_instr : Bridge.Rdga Tryd.prog 47 k47 (fun _ => True) := fun m =>
  Bridge.Rdg.imp (Bridge.Rdg.iso (fun x : S47 => (x.f0, x.f1, x.f2)) (fun p => ⟨p.1, p.2.1, p.2.2⟩) (fun _ => rfl)
    (Bridge.Rdg.structa Tryd.underlying47 (by kernel_rfl) (fun m => Bridge.RdgF.cons rfl (Bridge.Rdg.int Tryd.underlying3 (by kernel_rfl) m) (Bridge.RdgF.cons rfl (Bridge.Rdg.int Tryd.underlying3 (by kernel_rfl) m) (Bridge.RdgF.one rfl (Bridge.Rdg.int Tryd.underlying3 (by kernel_rfl) m)))) m)) (fun _ _ => trivial)
theorem rd_instrs : Bridge.Rdga Tryd.prog 24 (Kd.slice 47 k47) (fun l => ∀ a ∈ l, True) := Bridge.Rdg.slicea Tryd.underlying24 (by kernel_rfl) rd_instr
theorem CodeDecodes_walk (A : Option Addr) (c : Nat) (x : List Int) (w : World) (hC : (Kd.int .u8).C w A x.length x) (hle : x.length ≤ c) (wf : ∀ a ∈ x, (Lit.int .u8 a).wf = true) (hL : laidMetH Tryd.prog Rows.codeDecodesRow.laid w) :
    Calls Tryd.prog 3 #[.slice A x.length c] w fun e w' => e = .returned (.bool true) ∧ Below w.heap.size w w' := by
  obtain ⟨k, hk⟩ := Pure.CodeDecodes_any x wf
  exact ladderbacklaw13_CodeDecodes.calls k A c x true w hC hle hk (laidOps_of hL rfl (by simp [Rows.codeDecodesRow]))
theorem CodeBack_walk (A0 : Option Addr) (c0 : Nat) (x0 : List S47) (A1 : Option Addr) (c1 : Nat) (x1 : List Int) (w : World) (hC0 : k47.C w A0 x0.length x0) (hle0 : x0.length ≤ c0) (wf0 : ∀ a ∈ x0, True) (hC1 : (Kd.int .u8).C w A1 x1.length x1) (hle1 : x1.length ≤ c1) (wf1 : ∀ a ∈ x1, (Lit.int .u8 a).wf = true) (hL : laidMetH Tryd.prog Rows.codeBackRow.laid w) :
    Calls Tryd.prog 4 #[.slice A0 x0.length c0, .slice A1 x1.length c1] w fun e w' => e = .returned (.bool true) ∧ Below w.heap.size w w' := by
  obtain ⟨k, hk⟩ := Pure.CodeBack x0 x1 (fun a h => Pure.wf8 (wf1 a h))
  exact ladderbacklaw13_CodeBack.calls k A0 c0 x0 A1 c1 x1 true w hC0 hle0 hC1 hle1 hk (laidOps_of hL rfl (by simp [Rows.codeBackRow]))
end Go.Proofs.YthbcliofjfhmbaaDoor

/-
  NARROWER THAN 'FOR EVERY INPUT', by the rows' own cells (each row's printed sentence says how): RefsMore: laid · StackSteps: laid · StackTakes: laid.
  DERIVED. THE GIVEN ROWS OF THIS SEAT. 3 by the template 'for every input the law returns true; each argument reads behind the call as it read before'; 0 by the template 'total and deterministic' (their statements: YthdlocigijiobaaDoorTotals.lean).
  GIVEN WITH THE SEED: the statements are not yours to turn. If you find one false, say at which input.
  Laid BY PROGRAM, IN A SANDBOX (cutbox-rows.mjs): the forced cells as the released guide's own fill.sh prints them over the translation 11d71c5845c375e7… (all of the seat's roots in one cut). By AI agents, Wed Nov 11 2026. No macro, syntax, notation, axiom, sorry.
-/
import Derived.Test.YthdlocigijiobaaDoorChecked
import GoSem.Claim
import GoSem.ClaimJoined
import GoSem.ClaimMapViews
import Derived.JoinedTies
import Derived.KernelRfl
namespace Go.Proofs.YthdlocigijiobaaDoor
/- THE CELL 'sum', in the pinned program and in every row, IS THE sha256 OF THE DUMP (.gsa) THAT YthdlocigijiobaaDoorProg.lean LOADS. Nothing in Lean hashes anything: it is a label: what it is worth is what the hold of that sum in a sandbox is worth. -/
noncomputable def Tryd.pinned : Pinned := { name := "ythdlocigijiobaadoor", sum := "11d71c5845c375e78e7aa6b0b97cdaed943c61ff7e4ce2634b77683a2b503251", checked := Tryd.checked }
namespace Rows
def none {H : Type} : Left H := { results := [], args := [] }

/- WHAT THE LISTED PACKAGE-LEVEL VARIABLES READ AS WHEN THE CALL BEGINS. Each datum BY PROGRAM (the guide's laid-datum.mjs) off the statement by which the dump's own 'gosem.cut.vars' lays the variable. In a bare row this is a premise. The card (YthdlocigijiobaaDoorCards.lean) ties it to the program's text. -/
def laid_ladderback_alu_goes {H : Type} : DataW H := .agg [.lit (.int .i64 76), .lit (.int .i64 76), .lit (.int .i64 12), .lit (.int .i64 12), .lit (.int .i64 12), .lit (.int .i64 76), .lit (.int .i64 50), .lit (.int .i64 50), .lit (.int .i64 50), .lit (.int .i64 50), .lit (.int .i64 48), .lit (.int .i64 48), .lit (.int .i64 126), .lit (.int .i64 126), .lit (.int .i64 124), .lit (.int .i64 124), .lit (.int .i64 124), .lit (.int .i64 124)]
def laid_ladderback_block_rows {H : Type} : DataW H := .agg [.agg [.lit (.string []), .lit (.int .i64 0), .agg [.agg [.lit (.string []), .lit (.int .i64 0)], .agg [.lit (.string []), .lit (.int .i64 0)], .agg [.lit (.string []), .lit (.int .i64 0)], .agg [.lit (.string []), .lit (.int .i64 0)], .agg [.lit (.string []), .lit (.int .i64 0)], .agg [.lit (.string []), .lit (.int .i64 0)], .agg [.lit (.string []), .lit (.int .i64 0)], .agg [.lit (.string []), .lit (.int .i64 0)]]], .agg [.lit (.string [84, 79, 78]), .lit (.int .i64 2), .agg [.agg [.lit (.string [73, 78]), .lit (.int .i64 1)], .agg [.lit (.string [80, 84]), .lit (.int .i64 6)], .agg [.lit (.string [81]), .lit (.int .i64 1)], .agg [.lit (.string [69, 84]), .lit (.int .i64 6)], .agg [.lit (.string []), .lit (.int .i64 0)], .agg [.lit (.string []), .lit (.int .i64 0)], .agg [.lit (.string []), .lit (.int .i64 0)], .agg [.lit (.string []), .lit (.int .i64 0)]]], .agg [.lit (.string [84, 79, 70]), .lit (.int .i64 2), .agg [.agg [.lit (.string [73, 78]), .lit (.int .i64 1)], .agg [.lit (.string [80, 84]), .lit (.int .i64 6)], .agg [.lit (.string [81]), .lit (.int .i64 1)], .agg [.lit (.string [69, 84]), .lit (.int .i64 6)], .agg [.lit (.string []), .lit (.int .i64 0)], .agg [.lit (.string []), .lit (.int .i64 0)], .agg [.lit (.string []), .lit (.int .i64 0)], .agg [.lit (.string []), .lit (.int .i64 0)]]], .agg [.lit (.string [84, 80]), .lit (.int .i64 2), .agg [.agg [.lit (.string [73, 78]), .lit (.int .i64 1)], .agg [.lit (.string [80, 84]), .lit (.int .i64 6)], .agg [.lit (.string [81]), .lit (.int .i64 1)], .agg [.lit (.string [69, 84]), .lit (.int .i64 6)], .agg [.lit (.string []), .lit (.int .i64 0)], .agg [.lit (.string []), .lit (.int .i64 0)], .agg [.lit (.string []), .lit (.int .i64 0)], .agg [.lit (.string []), .lit (.int .i64 0)]]], .agg [.lit (.string [67, 84, 85]), .lit (.int .i64 3), .agg [.agg [.lit (.string [67, 85]), .lit (.int .i64 1)], .agg [.lit (.string [82]), .lit (.int .i64 1)], .agg [.lit (.string [80, 86]), .lit (.int .i64 2)], .agg [.lit (.string [81]), .lit (.int .i64 1)], .agg [.lit (.string [67, 86]), .lit (.int .i64 2)], .agg [.lit (.string []), .lit (.int .i64 0)], .agg [.lit (.string []), .lit (.int .i64 0)], .agg [.lit (.string []), .lit (.int .i64 0)]]], .agg [.lit (.string [67, 84, 68]), .lit (.int .i64 3), .agg [.agg [.lit (.string [67, 68]), .lit (.int .i64 1)], .agg [.lit (.string [76, 68]), .lit (.int .i64 1)], .agg [.lit (.string [80, 86]), .lit (.int .i64 2)], .agg [.lit (.string [81]), .lit (.int .i64 1)], .agg [.lit (.string [67, 86]), .lit (.int .i64 2)], .agg [.lit (.string []), .lit (.int .i64 0)], .agg [.lit (.string []), .lit (.int .i64 0)], .agg [.lit (.string []), .lit (.int .i64 0)]]], .agg [.lit (.string [67, 84, 85, 68]), .lit (.int .i64 5), .agg [.agg [.lit (.string [67, 85]), .lit (.int .i64 1)], .agg [.lit (.string [67, 68]), .lit (.int .i64 1)], .agg [.lit (.string [82]), .lit (.int .i64 1)], .agg [.lit (.string [76, 68]), .lit (.int .i64 1)], .agg [.lit (.string [80, 86]), .lit (.int .i64 2)], .agg [.lit (.string [81, 85]), .lit (.int .i64 1)], .agg [.lit (.string [81, 68]), .lit (.int .i64 1)], .agg [.lit (.string [67, 86]), .lit (.int .i64 2)]]], .agg [.lit (.string [82, 95, 84, 82, 73, 71]), .lit (.int .i64 1), .agg [.agg [.lit (.string [67, 76, 75]), .lit (.int .i64 1)], .agg [.lit (.string [81]), .lit (.int .i64 1)], .agg [.lit (.string []), .lit (.int .i64 0)], .agg [.lit (.string []), .lit (.int .i64 0)], .agg [.lit (.string []), .lit (.int .i64 0)], .agg [.lit (.string []), .lit (.int .i64 0)], .agg [.lit (.string []), .lit (.int .i64 0)], .agg [.lit (.string []), .lit (.int .i64 0)]]], .agg [.lit (.string [70, 95, 84, 82, 73, 71]), .lit (.int .i64 1), .agg [.agg [.lit (.string [67, 76, 75]), .lit (.int .i64 1)], .agg [.lit (.string [81]), .lit (.int .i64 1)], .agg [.lit (.string []), .lit (.int .i64 0)], .agg [.lit (.string []), .lit (.int .i64 0)], .agg [.lit (.string []), .lit (.int .i64 0)], .agg [.lit (.string []), .lit (.int .i64 0)], .agg [.lit (.string []), .lit (.int .i64 0)], .agg [.lit (.string []), .lit (.int .i64 0)]]]]
def laid_ladderback_op_rows {H : Type} : DataW H := .agg [.agg [.lit (.string [110, 111, 112]), .lit (.int .i64 10), .lit (.int .i64 10)], .agg [.lit (.string [99, 111, 110, 115, 116]), .lit (.int .i64 1), .lit (.int .i64 0)], .agg [.lit (.string [108, 111, 97, 100]), .lit (.int .i64 2), .lit (.int .i64 0)], .agg [.lit (.string [115, 116, 111, 114, 101]), .lit (.int .i64 2), .lit (.int .i64 0)], .agg [.lit (.string [103, 101, 116]), .lit (.int .i64 3), .lit (.int .i64 0)], .agg [.lit (.string [112, 117, 116]), .lit (.int .i64 3), .lit (.int .i64 0)], .agg [.lit (.string [105, 116, 101, 109]), .lit (.int .i64 2), .lit (.int .i64 0)], .agg [.lit (.string [107, 101, 101, 112]), .lit (.int .i64 2), .lit (.int .i64 0)], .agg [.lit (.string [97, 100, 100]), .lit (.int .i64 4), .lit (.int .i64 0)], .agg [.lit (.string [115, 117, 98]), .lit (.int .i64 4), .lit (.int .i64 0)], .agg [.lit (.string [109, 117, 108]), .lit (.int .i64 4), .lit (.int .i64 0)], .agg [.lit (.string [100, 105, 118]), .lit (.int .i64 4), .lit (.int .i64 0)], .agg [.lit (.string [109, 111, 100]), .lit (.int .i64 4), .lit (.int .i64 0)], .agg [.lit (.string [110, 101, 103]), .lit (.int .i64 4), .lit (.int .i64 0)], .agg [.lit (.string [97, 110, 100]), .lit (.int .i64 4), .lit (.int .i64 0)], .agg [.lit (.string [111, 114]), .lit (.int .i64 4), .lit (.int .i64 0)], .agg [.lit (.string [120, 111, 114]), .lit (.int .i64 4), .lit (.int .i64 0)], .agg [.lit (.string [110, 111, 116]), .lit (.int .i64 4), .lit (.int .i64 0)], .agg [.lit (.string [115, 104, 108]), .lit (.int .i64 4), .lit (.int .i64 0)], .agg [.lit (.string [115, 104, 114]), .lit (.int .i64 4), .lit (.int .i64 0)], .agg [.lit (.string [101, 113]), .lit (.int .i64 4), .lit (.int .i64 0)], .agg [.lit (.string [110, 101]), .lit (.int .i64 4), .lit (.int .i64 0)], .agg [.lit (.string [108, 116]), .lit (.int .i64 4), .lit (.int .i64 0)], .agg [.lit (.string [108, 101]), .lit (.int .i64 4), .lit (.int .i64 0)], .agg [.lit (.string [103, 116]), .lit (.int .i64 4), .lit (.int .i64 0)], .agg [.lit (.string [103, 101]), .lit (.int .i64 4), .lit (.int .i64 0)], .agg [.lit (.string [99, 111, 110, 118]), .lit (.int .i64 4), .lit (.int .i64 4)], .agg [.lit (.string [100, 117, 112]), .lit (.int .i64 0), .lit (.int .i64 0)], .agg [.lit (.string [112, 111, 112]), .lit (.int .i64 0), .lit (.int .i64 0)], .agg [.lit (.string [115, 119, 97, 112]), .lit (.int .i64 0), .lit (.int .i64 0)], .agg [.lit (.string [106, 117, 109, 112]), .lit (.int .i64 5), .lit (.int .i64 10)], .agg [.lit (.string [102, 97, 108, 115, 101]), .lit (.int .i64 5), .lit (.int .i64 10)], .agg [.lit (.string [115, 119, 105, 116, 99, 104]), .lit (.int .i64 6), .lit (.int .i64 10)], .agg [.lit (.string [99, 97, 108, 108]), .lit (.int .i64 7), .lit (.int .i64 0)], .agg [.lit (.string [114, 101, 116]), .lit (.int .i64 0), .lit (.int .i64 0)], .agg [.lit (.string [115, 101, 116]), .lit (.int .i64 8), .lit (.int .i64 9)], .agg [.lit (.string [114, 117, 110]), .lit (.int .i64 8), .lit (.int .i64 0)], .agg [.lit (.string [111, 117, 116]), .lit (.int .i64 8), .lit (.int .i64 9)]]

/-- 'ladderbacklaw18.RefsMore': WHATEVER THE INPUT: true; the input reads as it did. -/
def refsMoreSpec : ChangeSpec := { name := "refsMore", fn := fun _ => fun
  | [d1, d2, d3] => { results := [.lit (.bool true)], args := [d1, d2, d3] }
  | _ => none }
def refsMoreRow : OpenClaim := { program := "ythdlocigijiobaadoor", sum := "11d71c5845c375e78e7aa6b0b97cdaed943c61ff7e4ce2634b77683a2b503251", func := "ladderback/ladderbacklaw18.RefsMore", spec := "refsMore", named := ["ladderback/op.rows", "ladderback/alu.goes", "ladderback/block.rows"], apart := false, laid := [("ladderback/alu.goes", laid_ladderback_alu_goes), ("ladderback/block.rows", laid_ladderback_block_rows), ("ladderback/op.rows", laid_ladderback_op_rows)] }
def RefsMoreSaid : Prop := refsMoreRow.holds Tryd.pinned (OpenSpec.ofChange refsMoreSpec)

/-- ITS FALSE NEIGHBOUR: 'it returns false'. Refute it at one input. -/
def refsMoreWrong : ChangeSpec := { name := "refsMore", fn := fun _ => fun
  | [d1, d2, d3] => { results := [.lit (.bool false)], args := [d1, d2, d3] }
  | _ => none }
def RefsMoreWrongFalsely : Prop := refsMoreRow.holds Tryd.pinned (OpenSpec.ofChange refsMoreWrong)

/-- 'ladderbacklaw19.StackSteps': WHATEVER THE INPUT: true; the input reads as it did. -/
def stackStepsSpec : ChangeSpec := { name := "stackSteps", fn := fun _ => fun
  | [d1, d2, d3] => { results := [.lit (.bool true)], args := [d1, d2, d3] }
  | _ => none }
def stackStepsRow : OpenClaim := { program := "ythdlocigijiobaadoor", sum := "11d71c5845c375e78e7aa6b0b97cdaed943c61ff7e4ce2634b77683a2b503251", func := "ladderback/ladderbacklaw19.StackSteps", spec := "stackSteps", named := ["ladderback/op.rows", "ladderback/alu.goes", "ladderback/block.rows"], apart := false, laid := [("ladderback/alu.goes", laid_ladderback_alu_goes), ("ladderback/block.rows", laid_ladderback_block_rows), ("ladderback/op.rows", laid_ladderback_op_rows)] }
def StackStepsSaid : Prop := stackStepsRow.holds Tryd.pinned (OpenSpec.ofChange stackStepsSpec)

/-- ITS FALSE NEIGHBOUR: 'it returns false'. Refute it at one input. -/
def stackStepsWrong : ChangeSpec := { name := "stackSteps", fn := fun _ => fun
  | [d1, d2, d3] => { results := [.lit (.bool false)], args := [d1, d2, d3] }
  | _ => none }
def StackStepsWrongFalsely : Prop := stackStepsRow.holds Tryd.pinned (OpenSpec.ofChange stackStepsWrong)

/-- 'ladderbacklaw19.StackTakes': WHATEVER THE INPUT: true; the input reads as it did. -/
def stackTakesSpec : ChangeSpec := { name := "stackTakes", fn := fun _ => fun
  | [d1, d2, d3] => { results := [.lit (.bool true)], args := [d1, d2, d3] }
  | _ => none }
def stackTakesRow : OpenClaim := { program := "ythdlocigijiobaadoor", sum := "11d71c5845c375e78e7aa6b0b97cdaed943c61ff7e4ce2634b77683a2b503251", func := "ladderback/ladderbacklaw19.StackTakes", spec := "stackTakes", named := ["ladderback/op.rows", "ladderback/alu.goes", "ladderback/block.rows"], apart := false, laid := [("ladderback/alu.goes", laid_ladderback_alu_goes), ("ladderback/block.rows", laid_ladderback_block_rows), ("ladderback/op.rows", laid_ladderback_op_rows)] }
def StackTakesSaid : Prop := stackTakesRow.holds Tryd.pinned (OpenSpec.ofChange stackTakesSpec)

/-- ITS FALSE NEIGHBOUR: 'it returns false'. Refute it at one input. -/
def stackTakesWrong : ChangeSpec := { name := "stackTakes", fn := fun _ => fun
  | [d1, d2, d3] => { results := [.lit (.bool false)], args := [d1, d2, d3] }
  | _ => none }
def StackTakesWrongFalsely : Prop := stackTakesRow.holds Tryd.pinned (OpenSpec.ofChange stackTakesWrong)

/- THE SECOND FORM. 'bulk': how many values and letters a reading holds, each counted each time it is reached (what is shared counts as often as it is met; a slice's spare places count too). A statement '..UptoSaid' is the law's where the arguments, and the package variables that the reading takes, are together of bulk at most 1048576: NARROWER than '..Said'. Prove '..Said' where nothing that the law and all that it calls make is longer than what came in: it says more and counts as full. Else prove '..UptoSaid'. A law counts once. -/
mutual
def uptoBulk {H : Type} : DataW H → Nat
  | .lit (.string bytes) => bytes.length + 1
  | .lit _ => 1
  | .nil => 1
  | .ptr d => uptoBulk d + 1
  | .slice elems spare => uptoBulkAll elems + uptoBulkAll spare + 1
  | .agg parts => uptoBulkAll parts + 1
  | .iface _ d => uptoBulk d + 1
  | .map entries => uptoBulkEntries entries + 1
  | .held _ => 1
def uptoBulkAll {H : Type} : List (DataW H) → Nat
  | [] => 0
  | d :: r => uptoBulk d + uptoBulkAll r
def uptoBulkEntries {H : Type} : List (Lit × DataW H) → Nat
  | [] => 0
  | x :: r => uptoBulkEntry x + uptoBulkEntries r
def uptoBulkEntry {H : Type} : Lit × DataW H → Nat
  | (.string bytes, d) => bytes.length + uptoBulk d + 1
  | (_, d) => uptoBulk d + 1
 end
def uptoSmall : (H : Type) → List (DataW H) → Bool := fun _ ds => decide (uptoBulkAll ds ≤ 1048576)
def OpenSpec.upto (s : _root_.Go.ChangeSpec) : _root_.Go.OpenSpec := { _root_.Go.OpenSpec.ofChange s with cond := some uptoSmall }

/-- 'ladderbacklaw18.RefsMore', WHERE WHAT IT READS IS OF BULK AT MOST 1048576: true; the input reads as it did. -/
def refsMoreUptoRow : OpenClaim := { program := "ythdlocigijiobaadoor", sum := "11d71c5845c375e78e7aa6b0b97cdaed943c61ff7e4ce2634b77683a2b503251", func := "ladderback/ladderbacklaw18.RefsMore", spec := "refsMore", named := ["ladderback/op.rows", "ladderback/alu.goes", "ladderback/block.rows"], apart := false, laid := [("ladderback/alu.goes", laid_ladderback_alu_goes), ("ladderback/block.rows", laid_ladderback_block_rows), ("ladderback/op.rows", laid_ladderback_op_rows)], narrowed := true }
def RefsMoreUptoSaid : Prop := refsMoreUptoRow.holds Tryd.pinned (OpenSpec.upto refsMoreSpec)

/-- 'ladderbacklaw19.StackSteps', WHERE WHAT IT READS IS OF BULK AT MOST 1048576: true; the input reads as it did. -/
def stackStepsUptoRow : OpenClaim := { program := "ythdlocigijiobaadoor", sum := "11d71c5845c375e78e7aa6b0b97cdaed943c61ff7e4ce2634b77683a2b503251", func := "ladderback/ladderbacklaw19.StackSteps", spec := "stackSteps", named := ["ladderback/op.rows", "ladderback/alu.goes", "ladderback/block.rows"], apart := false, laid := [("ladderback/alu.goes", laid_ladderback_alu_goes), ("ladderback/block.rows", laid_ladderback_block_rows), ("ladderback/op.rows", laid_ladderback_op_rows)], narrowed := true }
def StackStepsUptoSaid : Prop := stackStepsUptoRow.holds Tryd.pinned (OpenSpec.upto stackStepsSpec)

/-- 'ladderbacklaw19.StackTakes', WHERE WHAT IT READS IS OF BULK AT MOST 1048576: true; the input reads as it did. -/
def stackTakesUptoRow : OpenClaim := { program := "ythdlocigijiobaadoor", sum := "11d71c5845c375e78e7aa6b0b97cdaed943c61ff7e4ce2634b77683a2b503251", func := "ladderback/ladderbacklaw19.StackTakes", spec := "stackTakes", named := ["ladderback/op.rows", "ladderback/alu.goes", "ladderback/block.rows"], apart := false, laid := [("ladderback/alu.goes", laid_ladderback_alu_goes), ("ladderback/block.rows", laid_ladderback_block_rows), ("ladderback/op.rows", laid_ladderback_op_rows)], narrowed := true }
def StackTakesUptoSaid : Prop := stackTakesUptoRow.holds Tryd.pinned (OpenSpec.upto stackTakesSpec)

end Rows
end Go.Proofs.YthdlocigijiobaaDoor

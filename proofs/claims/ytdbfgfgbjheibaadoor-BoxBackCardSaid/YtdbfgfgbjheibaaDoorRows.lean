/-
  NARROWER THAN 'FOR EVERY INPUT', by the rows' own cells (each row's printed sentence says how): BoxBack: laid · BoxOne: laid · BoxEncodes: laid · BoxDecodes: laid.
  DERIVED. THE GIVEN ROWS OF THIS SEAT. 4 by the template 'for every input the law returns true; each argument reads behind the call as it read before'; 0 by the template 'total and deterministic' (their statements: YtdbfgfgbjheibaaDoorTotals.lean).
  GIVEN WITH THE SEED: the statements are not yours to turn. If you find one false, say at which input.
  Laid BY PROGRAM, IN A SANDBOX (cutbox-rows.mjs): the forced cells as the released guide's own fill.sh prints them over the translation 92776c9989e0f68b… (all of the seat's roots in one cut). By AI agents, Wed Nov 11 2026. No macro, syntax, notation, axiom, sorry.
-/
import Derived.Test.YtdbfgfgbjheibaaDoorChecked
import GoSem.Claim
import GoSem.ClaimJoined
import GoSem.ClaimMapViews
import Derived.JoinedTies
import Derived.KernelRfl
namespace Go.Proofs.YtdbfgfgbjheibaaDoor
/- THE CELL 'sum', in the pinned program and in every row, IS THE sha256 OF THE DUMP (.gsa) THAT YtdbfgfgbjheibaaDoorProg.lean LOADS. Nothing in Lean hashes anything: it is a label: what it is worth is what the hold of that sum in a sandbox is worth. -/
noncomputable def Tryd.pinned : Pinned := { name := "ytdbfgfgbjheibaadoor", sum := "92776c9989e0f68bdd6c64d2157d09888928ae184855c011a6944eb39cee2b18", checked := Tryd.checked }
namespace Rows
def none {H : Type} : Left H := { results := [], args := [] }

/- WHAT THE LISTED PACKAGE-LEVEL VARIABLES READ AS WHEN THE CALL BEGINS. Each datum BY PROGRAM (the guide's laid-datum.mjs) off the statement by which the dump's own 'gosem.cut.vars' lays the variable. In a bare row this is a premise. The card (YtdbfgfgbjheibaaDoorCards.lean) ties it to the program's text. -/
def laid_ladderback_op_rows {H : Type} : DataW H := .agg [.agg [.lit (.string [110, 111, 112]), .lit (.int .i64 10), .lit (.int .i64 10)], .agg [.lit (.string [99, 111, 110, 115, 116]), .lit (.int .i64 1), .lit (.int .i64 0)], .agg [.lit (.string [108, 111, 97, 100]), .lit (.int .i64 2), .lit (.int .i64 0)], .agg [.lit (.string [115, 116, 111, 114, 101]), .lit (.int .i64 2), .lit (.int .i64 0)], .agg [.lit (.string [103, 101, 116]), .lit (.int .i64 3), .lit (.int .i64 0)], .agg [.lit (.string [112, 117, 116]), .lit (.int .i64 3), .lit (.int .i64 0)], .agg [.lit (.string [105, 116, 101, 109]), .lit (.int .i64 2), .lit (.int .i64 0)], .agg [.lit (.string [107, 101, 101, 112]), .lit (.int .i64 2), .lit (.int .i64 0)], .agg [.lit (.string [97, 100, 100]), .lit (.int .i64 4), .lit (.int .i64 0)], .agg [.lit (.string [115, 117, 98]), .lit (.int .i64 4), .lit (.int .i64 0)], .agg [.lit (.string [109, 117, 108]), .lit (.int .i64 4), .lit (.int .i64 0)], .agg [.lit (.string [100, 105, 118]), .lit (.int .i64 4), .lit (.int .i64 0)], .agg [.lit (.string [109, 111, 100]), .lit (.int .i64 4), .lit (.int .i64 0)], .agg [.lit (.string [110, 101, 103]), .lit (.int .i64 4), .lit (.int .i64 0)], .agg [.lit (.string [97, 110, 100]), .lit (.int .i64 4), .lit (.int .i64 0)], .agg [.lit (.string [111, 114]), .lit (.int .i64 4), .lit (.int .i64 0)], .agg [.lit (.string [120, 111, 114]), .lit (.int .i64 4), .lit (.int .i64 0)], .agg [.lit (.string [110, 111, 116]), .lit (.int .i64 4), .lit (.int .i64 0)], .agg [.lit (.string [115, 104, 108]), .lit (.int .i64 4), .lit (.int .i64 0)], .agg [.lit (.string [115, 104, 114]), .lit (.int .i64 4), .lit (.int .i64 0)], .agg [.lit (.string [101, 113]), .lit (.int .i64 4), .lit (.int .i64 0)], .agg [.lit (.string [110, 101]), .lit (.int .i64 4), .lit (.int .i64 0)], .agg [.lit (.string [108, 116]), .lit (.int .i64 4), .lit (.int .i64 0)], .agg [.lit (.string [108, 101]), .lit (.int .i64 4), .lit (.int .i64 0)], .agg [.lit (.string [103, 116]), .lit (.int .i64 4), .lit (.int .i64 0)], .agg [.lit (.string [103, 101]), .lit (.int .i64 4), .lit (.int .i64 0)], .agg [.lit (.string [99, 111, 110, 118]), .lit (.int .i64 4), .lit (.int .i64 4)], .agg [.lit (.string [100, 117, 112]), .lit (.int .i64 0), .lit (.int .i64 0)], .agg [.lit (.string [112, 111, 112]), .lit (.int .i64 0), .lit (.int .i64 0)], .agg [.lit (.string [115, 119, 97, 112]), .lit (.int .i64 0), .lit (.int .i64 0)], .agg [.lit (.string [106, 117, 109, 112]), .lit (.int .i64 5), .lit (.int .i64 10)], .agg [.lit (.string [102, 97, 108, 115, 101]), .lit (.int .i64 5), .lit (.int .i64 10)], .agg [.lit (.string [115, 119, 105, 116, 99, 104]), .lit (.int .i64 6), .lit (.int .i64 10)], .agg [.lit (.string [99, 97, 108, 108]), .lit (.int .i64 7), .lit (.int .i64 0)], .agg [.lit (.string [114, 101, 116]), .lit (.int .i64 0), .lit (.int .i64 0)], .agg [.lit (.string [115, 101, 116]), .lit (.int .i64 8), .lit (.int .i64 9)], .agg [.lit (.string [114, 117, 110]), .lit (.int .i64 8), .lit (.int .i64 0)], .agg [.lit (.string [111, 117, 116]), .lit (.int .i64 8), .lit (.int .i64 9)]]

/-- 'ladderbacklaw16.BoxBack': WHATEVER THE INPUT: true; the input reads as it did. -/
def boxBackSpec : ChangeSpec := { name := "boxBack", fn := fun _ => fun
  | [d1, d2] => { results := [.lit (.bool true)], args := [d1, d2] }
  | _ => none }
def boxBackRow : OpenClaim := { program := "ytdbfgfgbjheibaadoor", sum := "92776c9989e0f68bdd6c64d2157d09888928ae184855c011a6944eb39cee2b18", func := "ladderback/ladderbacklaw16.BoxBack", spec := "boxBack", unfollowed := true, recurses := true, named := ["ladderback/op.rows"], apart := false, laid := [("ladderback/op.rows", laid_ladderback_op_rows)] }
def BoxBackSaid : Prop := boxBackRow.holds Tryd.pinned (OpenSpec.ofChange boxBackSpec)

/-- ITS FALSE NEIGHBOUR: 'it returns false'. Refute it at one input. -/
def boxBackWrong : ChangeSpec := { name := "boxBack", fn := fun _ => fun
  | [d1, d2] => { results := [.lit (.bool false)], args := [d1, d2] }
  | _ => none }
def BoxBackWrongFalsely : Prop := boxBackRow.holds Tryd.pinned (OpenSpec.ofChange boxBackWrong)

/-- 'ladderbacklaw16.BoxOne': WHATEVER THE INPUT: true; the input reads as it did. -/
def boxOneSpec : ChangeSpec := { name := "boxOne", fn := fun _ => fun
  | [d1, d2, d3] => { results := [.lit (.bool true)], args := [d1, d2, d3] }
  | _ => none }
def boxOneRow : OpenClaim := { program := "ytdbfgfgbjheibaadoor", sum := "92776c9989e0f68bdd6c64d2157d09888928ae184855c011a6944eb39cee2b18", func := "ladderback/ladderbacklaw16.BoxOne", spec := "boxOne", unfollowed := true, recurses := true, named := ["ladderback/op.rows"], apart := false, laid := [("ladderback/op.rows", laid_ladderback_op_rows)] }
def BoxOneSaid : Prop := boxOneRow.holds Tryd.pinned (OpenSpec.ofChange boxOneSpec)

/-- ITS FALSE NEIGHBOUR: 'it returns false'. Refute it at one input. -/
def boxOneWrong : ChangeSpec := { name := "boxOne", fn := fun _ => fun
  | [d1, d2, d3] => { results := [.lit (.bool false)], args := [d1, d2, d3] }
  | _ => none }
def BoxOneWrongFalsely : Prop := boxOneRow.holds Tryd.pinned (OpenSpec.ofChange boxOneWrong)

/-- 'ladderbacklaw16.BoxEncodes': WHATEVER THE INPUT: true; the input reads as it did. -/
def boxEncodesSpec : ChangeSpec := { name := "boxEncodes", fn := fun _ => fun
  | [d1, d2] => { results := [.lit (.bool true)], args := [d1, d2] }
  | _ => none }
def boxEncodesRow : OpenClaim := { program := "ytdbfgfgbjheibaadoor", sum := "92776c9989e0f68bdd6c64d2157d09888928ae184855c011a6944eb39cee2b18", func := "ladderback/ladderbacklaw16.BoxEncodes", spec := "boxEncodes", unfollowed := true, recurses := true, named := ["ladderback/op.rows"], apart := false, laid := [("ladderback/op.rows", laid_ladderback_op_rows)] }
def BoxEncodesSaid : Prop := boxEncodesRow.holds Tryd.pinned (OpenSpec.ofChange boxEncodesSpec)

/-- ITS FALSE NEIGHBOUR: 'it returns false'. Refute it at one input. -/
def boxEncodesWrong : ChangeSpec := { name := "boxEncodes", fn := fun _ => fun
  | [d1, d2] => { results := [.lit (.bool false)], args := [d1, d2] }
  | _ => none }
def BoxEncodesWrongFalsely : Prop := boxEncodesRow.holds Tryd.pinned (OpenSpec.ofChange boxEncodesWrong)

/-- 'ladderbacklaw16.BoxDecodes': WHATEVER THE INPUT: true; the input reads as it did. -/
def boxDecodesSpec : ChangeSpec := { name := "boxDecodes", fn := fun _ => fun
  | [d] => { results := [.lit (.bool true)], args := [d] }
  | _ => none }
def boxDecodesRow : OpenClaim := { program := "ytdbfgfgbjheibaadoor", sum := "92776c9989e0f68bdd6c64d2157d09888928ae184855c011a6944eb39cee2b18", func := "ladderback/ladderbacklaw16.BoxDecodes", spec := "boxDecodes", unfollowed := true, recurses := true, named := ["ladderback/op.rows"], apart := false, laid := [("ladderback/op.rows", laid_ladderback_op_rows)] }
def BoxDecodesSaid : Prop := boxDecodesRow.holds Tryd.pinned (OpenSpec.ofChange boxDecodesSpec)

/-- ITS FALSE NEIGHBOUR: 'it returns false'. Refute it at one input. -/
def boxDecodesWrong : ChangeSpec := { name := "boxDecodes", fn := fun _ => fun
  | [d] => { results := [.lit (.bool false)], args := [d] }
  | _ => none }
def BoxDecodesWrongFalsely : Prop := boxDecodesRow.holds Tryd.pinned (OpenSpec.ofChange boxDecodesWrong)

/- THE SECOND FORM. 'bulk': how many values and letters a reading holds, each counted each time it is reached (what is shared counts as often as it is met; a slice's spare places count too). A statement '..UptoSaid' is the law's where the arguments, and the package variables that the reading takes, are together of bulk at most 1048576: NARROWER than '..Said'. Prove '..Said' where nothing that the law and all that it calls make is longer than what came in: it says more and counts as full. Else prove '..UptoSaid'. A law counts once. -/
mutual
def uptoBulk {H : Type} : DataW H → Nat
  | .lit (.string bytes) => bytes.length + 1
  | .lit _ => 1
  | .nil => 1
  | .ptr d => uptoBulk d + 1
  | .slice elems spare => uptoBulkAll elems + uptoBulkAll spare + 1
  | .agg parts => uptoBulkAll parts + 1
  | .iface _ d => uptoBulk d + 1
  | .map entries => uptoBulkEntries entries + 1
  | .held _ => 1
def uptoBulkAll {H : Type} : List (DataW H) → Nat
  | [] => 0
  | d :: r => uptoBulk d + uptoBulkAll r
def uptoBulkEntries {H : Type} : List (Lit × DataW H) → Nat
  | [] => 0
  | x :: r => uptoBulkEntry x + uptoBulkEntries r
def uptoBulkEntry {H : Type} : Lit × DataW H → Nat
  | (.string bytes, d) => bytes.length + uptoBulk d + 1
  | (_, d) => uptoBulk d + 1
 end
def uptoSmall : (H : Type) → List (DataW H) → Bool := fun _ ds => decide (uptoBulkAll ds ≤ 1048576)
def OpenSpec.upto (s : _root_.Go.ChangeSpec) : _root_.Go.OpenSpec := { _root_.Go.OpenSpec.ofChange s with cond := some uptoSmall }

/-- 'ladderbacklaw16.BoxBack', WHERE WHAT IT READS IS OF BULK AT MOST 1048576: true; the input reads as it did. -/
def boxBackUptoRow : OpenClaim := { program := "ytdbfgfgbjheibaadoor", sum := "92776c9989e0f68bdd6c64d2157d09888928ae184855c011a6944eb39cee2b18", func := "ladderback/ladderbacklaw16.BoxBack", spec := "boxBack", unfollowed := true, recurses := true, named := ["ladderback/op.rows"], apart := false, laid := [("ladderback/op.rows", laid_ladderback_op_rows)], narrowed := true }
def BoxBackUptoSaid : Prop := boxBackUptoRow.holds Tryd.pinned (OpenSpec.upto boxBackSpec)

/-- 'ladderbacklaw16.BoxOne', WHERE WHAT IT READS IS OF BULK AT MOST 1048576: true; the input reads as it did. -/
def boxOneUptoRow : OpenClaim := { program := "ytdbfgfgbjheibaadoor", sum := "92776c9989e0f68bdd6c64d2157d09888928ae184855c011a6944eb39cee2b18", func := "ladderback/ladderbacklaw16.BoxOne", spec := "boxOne", unfollowed := true, recurses := true, named := ["ladderback/op.rows"], apart := false, laid := [("ladderback/op.rows", laid_ladderback_op_rows)], narrowed := true }
def BoxOneUptoSaid : Prop := boxOneUptoRow.holds Tryd.pinned (OpenSpec.upto boxOneSpec)

/-- 'ladderbacklaw16.BoxEncodes', WHERE WHAT IT READS IS OF BULK AT MOST 1048576: true; the input reads as it did. -/
def boxEncodesUptoRow : OpenClaim := { program := "ytdbfgfgbjheibaadoor", sum := "92776c9989e0f68bdd6c64d2157d09888928ae184855c011a6944eb39cee2b18", func := "ladderback/ladderbacklaw16.BoxEncodes", spec := "boxEncodes", unfollowed := true, recurses := true, named := ["ladderback/op.rows"], apart := false, laid := [("ladderback/op.rows", laid_ladderback_op_rows)], narrowed := true }
def BoxEncodesUptoSaid : Prop := boxEncodesUptoRow.holds Tryd.pinned (OpenSpec.upto boxEncodesSpec)

/-- 'ladderbacklaw16.BoxDecodes', WHERE WHAT IT READS IS OF BULK AT MOST 1048576: true; the input reads as it did. -/
def boxDecodesUptoRow : OpenClaim := { program := "ytdbfgfgbjheibaadoor", sum := "92776c9989e0f68bdd6c64d2157d09888928ae184855c011a6944eb39cee2b18", func := "ladderback/ladderbacklaw16.BoxDecodes", spec := "boxDecodes", unfollowed := true, recurses := true, named := ["ladderback/op.rows"], apart := false, laid := [("ladderback/op.rows", laid_ladderback_op_rows)], narrowed := true }
def BoxDecodesUptoSaid : Prop := boxDecodesUptoRow.holds Tryd.pinned (OpenSpec.upto boxDecodesSpec)

end Rows
end Go.Proofs.YtdbfgfgbjheibaaDoor

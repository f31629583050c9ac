/-
  NARROWER THAN 'FOR EVERY INPUT', by the rows' own cells (each row's printed sentence says how): KindWraps: laid · KindStays: laid · KindTells: laid · AluBins: laid · AluLaws: laid · AluUns: laid.
  DERIVED. THE GIVEN ROWS OF THIS SEAT. 6 by the template 'for every input the law returns true; each argument reads behind the call as it read before'; 0 by the template 'total and deterministic' (their statements: YtohdabkhafcdkaaDoorTotals.lean).
  GIVEN WITH THE SEED: the statements are not yours to turn. If you find one false, say at which input.
  Laid BY PROGRAM, IN A SANDBOX (cutbox-rows.mjs): the forced cells as the released guide's own fill.sh prints them over the translation f414f3064ebdede4… (all of the seat's roots in one cut). By AI agents, Wed Nov 11 2026. No macro, syntax, notation, axiom, sorry.
-/
import Derived.Test.YtohdabkhafcdkaaDoorChecked
import GoSem.Claim
import GoSem.ClaimJoined
import GoSem.ClaimMapViews
import Derived.JoinedTies
import Derived.KernelRfl
namespace Go.Proofs.YtohdabkhafcdkaaDoor
/- THE CELL 'sum', in the pinned program and in every row, IS THE sha256 OF THE DUMP (.gsa) THAT YtohdabkhafcdkaaDoorProg.lean LOADS. Nothing in Lean hashes anything: it is a label: what it is worth is what the hold of that sum in a sandbox is worth. -/
noncomputable def Tryd.pinned : Pinned := { name := "ytohdabkhafcdkaadoor", sum := "f414f3064ebdede45337d133c5ccb72c6104bdeb1ec98359aa8f4debbc3cc035", checked := Tryd.checked }
namespace Rows
def none {H : Type} : Left H := { results := [], args := [] }

/- WHAT THE LISTED PACKAGE-LEVEL VARIABLES READ AS WHEN THE CALL BEGINS. Each datum BY PROGRAM (the guide's laid-datum.mjs) off the statement by which the dump's own 'gosem.cut.vars' lays the variable. In a bare row this is a premise. The card (YtohdabkhafcdkaaDoorCards.lean) ties it to the program's text. -/
def laid_ladderback_kind_rows {H : Type} : DataW H := .agg [.agg [.lit (.string []), .lit (.int .i64 0), .lit (.bool false)], .agg [.lit (.string [66, 79, 79, 76]), .lit (.int .i64 1), .lit (.bool false)], .agg [.lit (.string [73, 78, 84]), .lit (.int .i64 16), .lit (.bool true)], .agg [.lit (.string [68, 73, 78, 84]), .lit (.int .i64 32), .lit (.bool true)], .agg [.lit (.string [87, 79, 82, 68]), .lit (.int .i64 16), .lit (.bool false)], .agg [.lit (.string [68, 87, 79, 82, 68]), .lit (.int .i64 32), .lit (.bool false)], .agg [.lit (.string [84, 73, 77, 69]), .lit (.int .i64 64), .lit (.bool true)]]
def laid_ladderback_alu_goes {H : Type} : DataW H := .agg [.lit (.int .i64 76), .lit (.int .i64 76), .lit (.int .i64 12), .lit (.int .i64 12), .lit (.int .i64 12), .lit (.int .i64 76), .lit (.int .i64 50), .lit (.int .i64 50), .lit (.int .i64 50), .lit (.int .i64 50), .lit (.int .i64 48), .lit (.int .i64 48), .lit (.int .i64 126), .lit (.int .i64 126), .lit (.int .i64 124), .lit (.int .i64 124), .lit (.int .i64 124), .lit (.int .i64 124)]

/-- 'ladderbacklaw01.KindWraps': WHATEVER THE INPUT: true; the input reads as it did. -/
def kindWrapsSpec : ChangeSpec := { name := "kindWraps", fn := fun _ => fun
  | [d1, d2] => { results := [.lit (.bool true)], args := [d1, d2] }
  | _ => none }
def kindWrapsRow : OpenClaim := { program := "ytohdabkhafcdkaadoor", sum := "f414f3064ebdede45337d133c5ccb72c6104bdeb1ec98359aa8f4debbc3cc035", func := "ladderback/ladderbacklaw01.KindWraps", spec := "kindWraps", named := ["ladderback/kind.rows"], apart := false, laid := [("ladderback/kind.rows", laid_ladderback_kind_rows)] }
def KindWrapsSaid : Prop := kindWrapsRow.holds Tryd.pinned (OpenSpec.ofChange kindWrapsSpec)

/-- ITS FALSE NEIGHBOUR: 'it returns false'. Refute it at one input. -/
def kindWrapsWrong : ChangeSpec := { name := "kindWraps", fn := fun _ => fun
  | [d1, d2] => { results := [.lit (.bool false)], args := [d1, d2] }
  | _ => none }
def KindWrapsWrongFalsely : Prop := kindWrapsRow.holds Tryd.pinned (OpenSpec.ofChange kindWrapsWrong)

/-- 'ladderbacklaw01.KindStays': WHATEVER THE INPUT: true; the input reads as it did. -/
def kindStaysSpec : ChangeSpec := { name := "kindStays", fn := fun _ => fun
  | [d1, d2, d3] => { results := [.lit (.bool true)], args := [d1, d2, d3] }
  | _ => none }
def kindStaysRow : OpenClaim := { program := "ytohdabkhafcdkaadoor", sum := "f414f3064ebdede45337d133c5ccb72c6104bdeb1ec98359aa8f4debbc3cc035", func := "ladderback/ladderbacklaw01.KindStays", spec := "kindStays", named := ["ladderback/kind.rows"], apart := false, laid := [("ladderback/kind.rows", laid_ladderback_kind_rows)] }
def KindStaysSaid : Prop := kindStaysRow.holds Tryd.pinned (OpenSpec.ofChange kindStaysSpec)

/-- ITS FALSE NEIGHBOUR: 'it returns false'. Refute it at one input. -/
def kindStaysWrong : ChangeSpec := { name := "kindStays", fn := fun _ => fun
  | [d1, d2, d3] => { results := [.lit (.bool false)], args := [d1, d2, d3] }
  | _ => none }
def KindStaysWrongFalsely : Prop := kindStaysRow.holds Tryd.pinned (OpenSpec.ofChange kindStaysWrong)

/-- 'ladderbacklaw01.KindTells': WHATEVER THE INPUT: true; the input reads as it did. -/
def kindTellsSpec : ChangeSpec := { name := "kindTells", fn := fun _ => fun
  | [d1, d2] => { results := [.lit (.bool true)], args := [d1, d2] }
  | _ => none }
def kindTellsRow : OpenClaim := { program := "ytohdabkhafcdkaadoor", sum := "f414f3064ebdede45337d133c5ccb72c6104bdeb1ec98359aa8f4debbc3cc035", func := "ladderback/ladderbacklaw01.KindTells", spec := "kindTells", named := ["ladderback/kind.rows"], apart := false, laid := [("ladderback/kind.rows", laid_ladderback_kind_rows)] }
def KindTellsSaid : Prop := kindTellsRow.holds Tryd.pinned (OpenSpec.ofChange kindTellsSpec)

/-- ITS FALSE NEIGHBOUR: 'it returns false'. Refute it at one input. -/
def kindTellsWrong : ChangeSpec := { name := "kindTells", fn := fun _ => fun
  | [d1, d2] => { results := [.lit (.bool false)], args := [d1, d2] }
  | _ => none }
def KindTellsWrongFalsely : Prop := kindTellsRow.holds Tryd.pinned (OpenSpec.ofChange kindTellsWrong)

/-- 'ladderbacklaw07.AluBins': WHATEVER THE INPUT: true; the input reads as it did. -/
def aluBinsSpec : ChangeSpec := { name := "aluBins", fn := fun _ => fun
  | [d1, d2, d3] => { results := [.lit (.bool true)], args := [d1, d2, d3] }
  | _ => none }
def aluBinsRow : OpenClaim := { program := "ytohdabkhafcdkaadoor", sum := "f414f3064ebdede45337d133c5ccb72c6104bdeb1ec98359aa8f4debbc3cc035", func := "ladderback/ladderbacklaw07.AluBins", spec := "aluBins", named := ["ladderback/alu.goes", "ladderback/kind.rows"], apart := false, laid := [("ladderback/kind.rows", laid_ladderback_kind_rows), ("ladderback/alu.goes", laid_ladderback_alu_goes)] }
def AluBinsSaid : Prop := aluBinsRow.holds Tryd.pinned (OpenSpec.ofChange aluBinsSpec)

/-- ITS FALSE NEIGHBOUR: 'it returns false'. Refute it at one input. -/
def aluBinsWrong : ChangeSpec := { name := "aluBins", fn := fun _ => fun
  | [d1, d2, d3] => { results := [.lit (.bool false)], args := [d1, d2, d3] }
  | _ => none }
def AluBinsWrongFalsely : Prop := aluBinsRow.holds Tryd.pinned (OpenSpec.ofChange aluBinsWrong)

/-- 'ladderbacklaw07.AluLaws': WHATEVER THE INPUT: true; the input reads as it did. -/
def aluLawsSpec : ChangeSpec := { name := "aluLaws", fn := fun _ => fun
  | [d1, d2, d3] => { results := [.lit (.bool true)], args := [d1, d2, d3] }
  | _ => none }
def aluLawsRow : OpenClaim := { program := "ytohdabkhafcdkaadoor", sum := "f414f3064ebdede45337d133c5ccb72c6104bdeb1ec98359aa8f4debbc3cc035", func := "ladderback/ladderbacklaw07.AluLaws", spec := "aluLaws", named := ["ladderback/alu.goes", "ladderback/kind.rows"], apart := false, laid := [("ladderback/kind.rows", laid_ladderback_kind_rows), ("ladderback/alu.goes", laid_ladderback_alu_goes)] }
def AluLawsSaid : Prop := aluLawsRow.holds Tryd.pinned (OpenSpec.ofChange aluLawsSpec)

/-- ITS FALSE NEIGHBOUR: 'it returns false'. Refute it at one input. -/
def aluLawsWrong : ChangeSpec := { name := "aluLaws", fn := fun _ => fun
  | [d1, d2, d3] => { results := [.lit (.bool false)], args := [d1, d2, d3] }
  | _ => none }
def AluLawsWrongFalsely : Prop := aluLawsRow.holds Tryd.pinned (OpenSpec.ofChange aluLawsWrong)

/-- 'ladderbacklaw07.AluUns': WHATEVER THE INPUT: true; the input reads as it did. -/
def aluUnsSpec : ChangeSpec := { name := "aluUns", fn := fun _ => fun
  | [d1, d2, d3] => { results := [.lit (.bool true)], args := [d1, d2, d3] }
  | _ => none }
def aluUnsRow : OpenClaim := { program := "ytohdabkhafcdkaadoor", sum := "f414f3064ebdede45337d133c5ccb72c6104bdeb1ec98359aa8f4debbc3cc035", func := "ladderback/ladderbacklaw07.AluUns", spec := "aluUns", named := ["ladderback/alu.goes", "ladderback/kind.rows"], apart := false, laid := [("ladderback/kind.rows", laid_ladderback_kind_rows), ("ladderback/alu.goes", laid_ladderback_alu_goes)] }
def AluUnsSaid : Prop := aluUnsRow.holds Tryd.pinned (OpenSpec.ofChange aluUnsSpec)

/-- ITS FALSE NEIGHBOUR: 'it returns false'. Refute it at one input. -/
def aluUnsWrong : ChangeSpec := { name := "aluUns", fn := fun _ => fun
  | [d1, d2, d3] => { results := [.lit (.bool false)], args := [d1, d2, d3] }
  | _ => none }
def AluUnsWrongFalsely : Prop := aluUnsRow.holds Tryd.pinned (OpenSpec.ofChange aluUnsWrong)

/- THE SECOND FORM. 'bulk': how many values and letters a reading holds, each counted each time it is reached (what is shared counts as often as it is met; a slice's spare places count too). A statement '..UptoSaid' is the law's where the arguments, and the package variables that the reading takes, are together of bulk at most 1048576: NARROWER than '..Said'. Prove '..Said' where nothing that the law and all that it calls make is longer than what came in: it says more and counts as full. Else prove '..UptoSaid'. A law counts once. -/
mutual
def uptoBulk {H : Type} : DataW H → Nat
  | .lit (.string bytes) => bytes.length + 1
  | .lit _ => 1
  | .nil => 1
  | .ptr d => uptoBulk d + 1
  | .slice elems spare => uptoBulkAll elems + uptoBulkAll spare + 1
  | .agg parts => uptoBulkAll parts + 1
  | .iface _ d => uptoBulk d + 1
  | .map entries => uptoBulkEntries entries + 1
  | .held _ => 1
def uptoBulkAll {H : Type} : List (DataW H) → Nat
  | [] => 0
  | d :: r => uptoBulk d + uptoBulkAll r
def uptoBulkEntries {H : Type} : List (Lit × DataW H) → Nat
  | [] => 0
  | x :: r => uptoBulkEntry x + uptoBulkEntries r
def uptoBulkEntry {H : Type} : Lit × DataW H → Nat
  | (.string bytes, d) => bytes.length + uptoBulk d + 1
  | (_, d) => uptoBulk d + 1
 end
def uptoSmall : (H : Type) → List (DataW H) → Bool := fun _ ds => decide (uptoBulkAll ds ≤ 1048576)
def OpenSpec.upto (s : _root_.Go.ChangeSpec) : _root_.Go.OpenSpec := { _root_.Go.OpenSpec.ofChange s with cond := some uptoSmall }

/-- 'ladderbacklaw01.KindWraps', WHERE WHAT IT READS IS OF BULK AT MOST 1048576: true; the input reads as it did. -/
def kindWrapsUptoRow : OpenClaim := { program := "ytohdabkhafcdkaadoor", sum := "f414f3064ebdede45337d133c5ccb72c6104bdeb1ec98359aa8f4debbc3cc035", func := "ladderback/ladderbacklaw01.KindWraps", spec := "kindWraps", named := ["ladderback/kind.rows"], apart := false, laid := [("ladderback/kind.rows", laid_ladderback_kind_rows)], narrowed := true }
def KindWrapsUptoSaid : Prop := kindWrapsUptoRow.holds Tryd.pinned (OpenSpec.upto kindWrapsSpec)

/-- 'ladderbacklaw01.KindStays', WHERE WHAT IT READS IS OF BULK AT MOST 1048576: true; the input reads as it did. -/
def kindStaysUptoRow : OpenClaim := { program := "ytohdabkhafcdkaadoor", sum := "f414f3064ebdede45337d133c5ccb72c6104bdeb1ec98359aa8f4debbc3cc035", func := "ladderback/ladderbacklaw01.KindStays", spec := "kindStays", named := ["ladderback/kind.rows"], apart := false, laid := [("ladderback/kind.rows", laid_ladderback_kind_rows)], narrowed := true }
def KindStaysUptoSaid : Prop := kindStaysUptoRow.holds Tryd.pinned (OpenSpec.upto kindStaysSpec)

/-- 'ladderbacklaw01.KindTells', WHERE WHAT IT READS IS OF BULK AT MOST 1048576: true; the input reads as it did. -/
def kindTellsUptoRow : OpenClaim := { program := "ytohdabkhafcdkaadoor", sum := "f414f3064ebdede45337d133c5ccb72c6104bdeb1ec98359aa8f4debbc3cc035", func := "ladderback/ladderbacklaw01.KindTells", spec := "kindTells", named := ["ladderback/kind.rows"], apart := false, laid := [("ladderback/kind.rows", laid_ladderback_kind_rows)], narrowed := true }
def KindTellsUptoSaid : Prop := kindTellsUptoRow.holds Tryd.pinned (OpenSpec.upto kindTellsSpec)

/-- 'ladderbacklaw07.AluBins', WHERE WHAT IT READS IS OF BULK AT MOST 1048576: true; the input reads as it did. -/
def aluBinsUptoRow : OpenClaim := { program := "ytohdabkhafcdkaadoor", sum := "f414f3064ebdede45337d133c5ccb72c6104bdeb1ec98359aa8f4debbc3cc035", func := "ladderback/ladderbacklaw07.AluBins", spec := "aluBins", named := ["ladderback/alu.goes", "ladderback/kind.rows"], apart := false, laid := [("ladderback/kind.rows", laid_ladderback_kind_rows), ("ladderback/alu.goes", laid_ladderback_alu_goes)], narrowed := true }
def AluBinsUptoSaid : Prop := aluBinsUptoRow.holds Tryd.pinned (OpenSpec.upto aluBinsSpec)

/-- 'ladderbacklaw07.AluLaws', WHERE WHAT IT READS IS OF BULK AT MOST 1048576: true; the input reads as it did. -/
def aluLawsUptoRow : OpenClaim := { program := "ytohdabkhafcdkaadoor", sum := "f414f3064ebdede45337d133c5ccb72c6104bdeb1ec98359aa8f4debbc3cc035", func := "ladderback/ladderbacklaw07.AluLaws", spec := "aluLaws", named := ["ladderback/alu.goes", "ladderback/kind.rows"], apart := false, laid := [("ladderback/kind.rows", laid_ladderback_kind_rows), ("ladderback/alu.goes", laid_ladderback_alu_goes)], narrowed := true }
def AluLawsUptoSaid : Prop := aluLawsUptoRow.holds Tryd.pinned (OpenSpec.upto aluLawsSpec)

/-- 'ladderbacklaw07.AluUns', WHERE WHAT IT READS IS OF BULK AT MOST 1048576: true; the input reads as it did. -/
def aluUnsUptoRow : OpenClaim := { program := "ytohdabkhafcdkaadoor", sum := "f414f3064ebdede45337d133c5ccb72c6104bdeb1ec98359aa8f4debbc3cc035", func := "ladderback/ladderbacklaw07.AluUns", spec := "aluUns", named := ["ladderback/alu.goes", "ladderback/kind.rows"], apart := false, laid := [("ladderback/kind.rows", laid_ladderback_kind_rows), ("ladderback/alu.goes", laid_ladderback_alu_goes)], narrowed := true }
def AluUnsUptoSaid : Prop := aluUnsUptoRow.holds Tryd.pinned (OpenSpec.upto aluUnsSpec)

end Rows
end Go.Proofs.YtohdabkhafcdkaaDoor

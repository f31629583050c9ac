/-
  No cell of these rows narrows 'for every input' (looked for: loops, veiled, ifaces, maps, wideKeys, modest, calm, conditions, laid).
  DERIVED. THE GIVEN ROWS OF THIS SEAT. 6 by the template 'for every input the law returns true; each argument reads behind the call as it read before'; 0 by the template 'total and deterministic' (their statements: YtohdabkhafcdkaaTotals.lean).
  GIVEN WITH THE SEED: the statements are not yours to turn. If you find one false, say at which input.
  Laid BY PROGRAM, IN A SANDBOX (cutbox-rows.mjs): the forced cells as the released guide's own fill.sh prints them over the translation fe12b2eb73cdc0bd… (all of the seat's roots in one cut). By AI agents, Wed Nov 11 2026. No macro, syntax, notation, axiom, sorry.
-/
import Derived.Test.YtohdabkhafcdkaaChecked
import GoSem.Claim
import GoSem.ClaimJoined
import GoSem.ClaimMapViews
import Derived.JoinedTies
import Derived.KernelRfl
namespace Go.Proofs.Ytohdabkhafcdkaa
/- THE CELL 'sum', in the pinned program and in every row, IS THE sha256 OF THE DUMP (.gsa) THAT YtohdabkhafcdkaaProg.lean LOADS. Nothing in Lean hashes anything: it is a label: what it is worth is what the hold of that sum in a sandbox is worth. -/
noncomputable def Try.pinned : Pinned := { name := "ytohdabkhafcdkaa", sum := "fe12b2eb73cdc0bd4b83441a1fcf5d243c9d05d1568c14dc870ba3a61f1999f8", checked := Try.checked }
namespace Rows
def none {H : Type} : Left H := { results := [], args := [] }

/-- 'ladderbacklaw10.TrigSteps': WHATEVER THE INPUT: true; the input reads as it did. -/
def trigStepsSpec : ChangeSpec := { name := "trigSteps", fn := fun _ => fun
  | [d1, d2] => { results := [.lit (.bool true)], args := [d1, d2] }
  | _ => none }
def trigStepsRow : OpenClaim := { program := "ytohdabkhafcdkaa", sum := "fe12b2eb73cdc0bd4b83441a1fcf5d243c9d05d1568c14dc870ba3a61f1999f8", func := "ladderback/ladderbacklaw10.TrigSteps", spec := "trigSteps", apart := false }
def TrigStepsSaid : Prop := trigStepsRow.holds Try.pinned (OpenSpec.ofChange trigStepsSpec)

/-- ITS FALSE NEIGHBOUR: 'it returns false'. Refute it at one input. -/
def trigStepsWrong : ChangeSpec := { name := "trigSteps", fn := fun _ => fun
  | [d1, d2] => { results := [.lit (.bool false)], args := [d1, d2] }
  | _ => none }
def TrigStepsWrongFalsely : Prop := trigStepsRow.holds Try.pinned (OpenSpec.ofChange trigStepsWrong)

/-- 'ladderbacklaw10.TrigEdges': WHATEVER THE INPUT: true; the input reads as it did. -/
def trigEdgesSpec : ChangeSpec := { name := "trigEdges", fn := fun _ => fun
  | [d] => { results := [.lit (.bool true)], args := [d] }
  | _ => none }
def trigEdgesRow : OpenClaim := { program := "ytohdabkhafcdkaa", sum := "fe12b2eb73cdc0bd4b83441a1fcf5d243c9d05d1568c14dc870ba3a61f1999f8", func := "ladderback/ladderbacklaw10.TrigEdges", spec := "trigEdges", apart := false }
def TrigEdgesSaid : Prop := trigEdgesRow.holds Try.pinned (OpenSpec.ofChange trigEdgesSpec)

/-- ITS FALSE NEIGHBOUR: 'it returns false'. Refute it at one input. -/
def trigEdgesWrong : ChangeSpec := { name := "trigEdges", fn := fun _ => fun
  | [d] => { results := [.lit (.bool false)], args := [d] }
  | _ => none }
def TrigEdgesWrongFalsely : Prop := trigEdgesRow.holds Try.pinned (OpenSpec.ofChange trigEdgesWrong)

/-- 'ladderbacklaw51.FeedPlays': WHATEVER THE INPUT: true; the input reads as it did. -/
def feedPlaysSpec : ChangeSpec := { name := "feedPlays", fn := fun _ => fun
  | [d1, d2] => { results := [.lit (.bool true)], args := [d1, d2] }
  | _ => none }
def feedPlaysRow : OpenClaim := { program := "ytohdabkhafcdkaa", sum := "fe12b2eb73cdc0bd4b83441a1fcf5d243c9d05d1568c14dc870ba3a61f1999f8", func := "ladderback/ladderbacklaw51.FeedPlays", spec := "feedPlays", apart := false }
def FeedPlaysSaid : Prop := feedPlaysRow.holds Try.pinned (OpenSpec.ofChange feedPlaysSpec)

/-- ITS FALSE NEIGHBOUR: 'it returns false'. Refute it at one input. -/
def feedPlaysWrong : ChangeSpec := { name := "feedPlays", fn := fun _ => fun
  | [d1, d2] => { results := [.lit (.bool false)], args := [d1, d2] }
  | _ => none }
def FeedPlaysWrongFalsely : Prop := feedPlaysRow.holds Try.pinned (OpenSpec.ofChange feedPlaysWrong)

/-- 'ladderbacklaw51.FeedNil': WHATEVER THE INPUT: true; the input reads as it did. -/
def feedNilSpec : ChangeSpec := { name := "feedNil", fn := fun _ => fun
  | [d] => { results := [.lit (.bool true)], args := [d] }
  | _ => none }
def feedNilRow : OpenClaim := { program := "ytohdabkhafcdkaa", sum := "fe12b2eb73cdc0bd4b83441a1fcf5d243c9d05d1568c14dc870ba3a61f1999f8", func := "ladderback/ladderbacklaw51.FeedNil", spec := "feedNil", apart := false }
def FeedNilSaid : Prop := feedNilRow.holds Try.pinned (OpenSpec.ofChange feedNilSpec)

/-- ITS FALSE NEIGHBOUR: 'it returns false'. Refute it at one input. -/
def feedNilWrong : ChangeSpec := { name := "feedNil", fn := fun _ => fun
  | [d] => { results := [.lit (.bool false)], args := [d] }
  | _ => none }
def FeedNilWrongFalsely : Prop := feedNilRow.holds Try.pinned (OpenSpec.ofChange feedNilWrong)

/-- 'ladderbacklaw24.CycleBegins': WHATEVER THE INPUT: true; the input reads as it did. -/
def cycleBeginsSpec : ChangeSpec := { name := "cycleBegins", fn := fun _ => fun
  | [d1, d2, d3] => { results := [.lit (.bool true)], args := [d1, d2, d3] }
  | _ => none }
def cycleBeginsRow : OpenClaim := { program := "ytohdabkhafcdkaa", sum := "fe12b2eb73cdc0bd4b83441a1fcf5d243c9d05d1568c14dc870ba3a61f1999f8", func := "ladderback/ladderbacklaw24.CycleBegins", spec := "cycleBegins", unfollowed := true, recurses := true, apart := false }
def CycleBeginsSaid : Prop := cycleBeginsRow.holds Try.pinned (OpenSpec.ofChange cycleBeginsSpec)

/-- ITS FALSE NEIGHBOUR: 'it returns false'. Refute it at one input. -/
def cycleBeginsWrong : ChangeSpec := { name := "cycleBegins", fn := fun _ => fun
  | [d1, d2, d3] => { results := [.lit (.bool false)], args := [d1, d2, d3] }
  | _ => none }
def CycleBeginsWrongFalsely : Prop := cycleBeginsRow.holds Try.pinned (OpenSpec.ofChange cycleBeginsWrong)

/-- 'ladderbacklaw24.CycleEnds': WHATEVER THE INPUT: true; the input reads as it did. -/
def cycleEndsSpec : ChangeSpec := { name := "cycleEnds", fn := fun _ => fun
  | [d1, d2, d3] => { results := [.lit (.bool true)], args := [d1, d2, d3] }
  | _ => none }
def cycleEndsRow : OpenClaim := { program := "ytohdabkhafcdkaa", sum := "fe12b2eb73cdc0bd4b83441a1fcf5d243c9d05d1568c14dc870ba3a61f1999f8", func := "ladderback/ladderbacklaw24.CycleEnds", spec := "cycleEnds", unfollowed := true, recurses := true, apart := false }
def CycleEndsSaid : Prop := cycleEndsRow.holds Try.pinned (OpenSpec.ofChange cycleEndsSpec)

/-- ITS FALSE NEIGHBOUR: 'it returns false'. Refute it at one input. -/
def cycleEndsWrong : ChangeSpec := { name := "cycleEnds", fn := fun _ => fun
  | [d1, d2, d3] => { results := [.lit (.bool false)], args := [d1, d2, d3] }
  | _ => none }
def CycleEndsWrongFalsely : Prop := cycleEndsRow.holds Try.pinned (OpenSpec.ofChange cycleEndsWrong)

/- THE SECOND FORM. 'bulk': how many values and letters a reading holds, each counted each time it is reached (what is shared counts as often as it is met; a slice's spare places count too). A statement '..UptoSaid' is the law's where the arguments, and the package variables that the reading takes, are together of bulk at most 1048576: NARROWER than '..Said'. Prove '..Said' where nothing that the law and all that it calls make is longer than what came in: it says more and counts as full. Else prove '..UptoSaid'. A law counts once. -/
mutual
def uptoBulk {H : Type} : DataW H → Nat
  | .lit (.string bytes) => bytes.length + 1
  | .lit _ => 1
  | .nil => 1
  | .ptr d => uptoBulk d + 1
  | .slice elems spare => uptoBulkAll elems + uptoBulkAll spare + 1
  | .agg parts => uptoBulkAll parts + 1
  | .iface _ d => uptoBulk d + 1
  | .map entries => uptoBulkEntries entries + 1
  | .held _ => 1
def uptoBulkAll {H : Type} : List (DataW H) → Nat
  | [] => 0
  | d :: r => uptoBulk d + uptoBulkAll r
def uptoBulkEntries {H : Type} : List (Lit × DataW H) → Nat
  | [] => 0
  | x :: r => uptoBulkEntry x + uptoBulkEntries r
def uptoBulkEntry {H : Type} : Lit × DataW H → Nat
  | (.string bytes, d) => bytes.length + uptoBulk d + 1
  | (_, d) => uptoBulk d + 1
 end
def uptoSmall : (H : Type) → List (DataW H) → Bool := fun _ ds => decide (uptoBulkAll ds ≤ 1048576)
def OpenSpec.upto (s : _root_.Go.ChangeSpec) : _root_.Go.OpenSpec := { _root_.Go.OpenSpec.ofChange s with cond := some uptoSmall }

/-- 'ladderbacklaw10.TrigSteps', WHERE WHAT IT READS IS OF BULK AT MOST 1048576: true; the input reads as it did. -/
def trigStepsUptoRow : OpenClaim := { program := "ytohdabkhafcdkaa", sum := "fe12b2eb73cdc0bd4b83441a1fcf5d243c9d05d1568c14dc870ba3a61f1999f8", func := "ladderback/ladderbacklaw10.TrigSteps", spec := "trigSteps", apart := false, narrowed := true }
def TrigStepsUptoSaid : Prop := trigStepsUptoRow.holds Try.pinned (OpenSpec.upto trigStepsSpec)

/-- 'ladderbacklaw10.TrigEdges', WHERE WHAT IT READS IS OF BULK AT MOST 1048576: true; the input reads as it did. -/
def trigEdgesUptoRow : OpenClaim := { program := "ytohdabkhafcdkaa", sum := "fe12b2eb73cdc0bd4b83441a1fcf5d243c9d05d1568c14dc870ba3a61f1999f8", func := "ladderback/ladderbacklaw10.TrigEdges", spec := "trigEdges", apart := false, narrowed := true }
def TrigEdgesUptoSaid : Prop := trigEdgesUptoRow.holds Try.pinned (OpenSpec.upto trigEdgesSpec)

/-- 'ladderbacklaw51.FeedPlays', WHERE WHAT IT READS IS OF BULK AT MOST 1048576: true; the input reads as it did. -/
def feedPlaysUptoRow : OpenClaim := { program := "ytohdabkhafcdkaa", sum := "fe12b2eb73cdc0bd4b83441a1fcf5d243c9d05d1568c14dc870ba3a61f1999f8", func := "ladderback/ladderbacklaw51.FeedPlays", spec := "feedPlays", apart := false, narrowed := true }
def FeedPlaysUptoSaid : Prop := feedPlaysUptoRow.holds Try.pinned (OpenSpec.upto feedPlaysSpec)

/-- 'ladderbacklaw51.FeedNil', WHERE WHAT IT READS IS OF BULK AT MOST 1048576: true; the input reads as it did. -/
def feedNilUptoRow : OpenClaim := { program := "ytohdabkhafcdkaa", sum := "fe12b2eb73cdc0bd4b83441a1fcf5d243c9d05d1568c14dc870ba3a61f1999f8", func := "ladderback/ladderbacklaw51.FeedNil", spec := "feedNil", apart := false, narrowed := true }
def FeedNilUptoSaid : Prop := feedNilUptoRow.holds Try.pinned (OpenSpec.upto feedNilSpec)

/-- 'ladderbacklaw24.CycleBegins', WHERE WHAT IT READS IS OF BULK AT MOST 1048576: true; the input reads as it did. -/
def cycleBeginsUptoRow : OpenClaim := { program := "ytohdabkhafcdkaa", sum := "fe12b2eb73cdc0bd4b83441a1fcf5d243c9d05d1568c14dc870ba3a61f1999f8", func := "ladderback/ladderbacklaw24.CycleBegins", spec := "cycleBegins", unfollowed := true, recurses := true, apart := false, narrowed := true }
def CycleBeginsUptoSaid : Prop := cycleBeginsUptoRow.holds Try.pinned (OpenSpec.upto cycleBeginsSpec)

/-- 'ladderbacklaw24.CycleEnds', WHERE WHAT IT READS IS OF BULK AT MOST 1048576: true; the input reads as it did. -/
def cycleEndsUptoRow : OpenClaim := { program := "ytohdabkhafcdkaa", sum := "fe12b2eb73cdc0bd4b83441a1fcf5d243c9d05d1568c14dc870ba3a61f1999f8", func := "ladderback/ladderbacklaw24.CycleEnds", spec := "cycleEnds", unfollowed := true, recurses := true, apart := false, narrowed := true }
def CycleEndsUptoSaid : Prop := cycleEndsUptoRow.holds Try.pinned (OpenSpec.upto cycleEndsSpec)

end Rows
end Go.Proofs.Ytohdabkhafcdkaa

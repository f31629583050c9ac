/-
  No cell of these rows narrows 'for every input' (looked for: loops, veiled, ifaces, maps, wideKeys, modest, calm, conditions, laid).
  DERIVED. THE GIVEN ROWS OF THIS SEAT. 5 by the template 'for every input the law returns true; each argument reads behind the call as it read before'; 0 by the template 'total and deterministic' (their statements: YtamajfcjcfkkjaaTotals.lean).
  GIVEN WITH THE SEED: the statements are not yours to turn. If you find one false, say at which input.
  Laid BY PROGRAM, IN A SANDBOX (cutbox-rows.mjs): the forced cells as the released guide's own fill.sh prints them over the translation 355f94f4a63c5b9e… (all of the seat's roots in one cut). By AI agents, Wed Nov 11 2026. No macro, syntax, notation, axiom, sorry.
-/
import Derived.Test.YtamajfcjcfkkjaaChecked
import GoSem.Claim
import GoSem.ClaimJoined
import GoSem.ClaimMapViews
import Derived.JoinedTies
import Derived.KernelRfl
namespace Go.Proofs.Ytamajfcjcfkkjaa
/- THE CELL 'sum', in the pinned program and in every row, IS THE sha256 OF THE DUMP (.gsa) THAT YtamajfcjcfkkjaaProg.lean LOADS. Nothing in Lean hashes anything: it is a label: what it is worth is what the hold of that sum in a sandbox is worth. -/
noncomputable def Try.pinned : Pinned := { name := "ytamajfcjcfkkjaa", sum := "355f94f4a63c5b9e7b0cdfb40ad57921954319257e082b6e5ad127e3eef2c38a", checked := Try.checked }
namespace Rows
def none {H : Type} : Left H := { results := [], args := [] }

/-- 'ladderbacklaw24.CycleBegins': WHATEVER THE INPUT: true; the input reads as it did. -/
def cycleBeginsSpec : ChangeSpec := { name := "cycleBegins", fn := fun _ => fun
  | [d1, d2, d3] => { results := [.lit (.bool true)], args := [d1, d2, d3] }
  | _ => none }
def cycleBeginsRow : OpenClaim := { program := "ytamajfcjcfkkjaa", sum := "355f94f4a63c5b9e7b0cdfb40ad57921954319257e082b6e5ad127e3eef2c38a", func := "ladderback/ladderbacklaw24.CycleBegins", spec := "cycleBegins", unfollowed := true, recurses := true, apart := false }
def CycleBeginsSaid : Prop := cycleBeginsRow.holds Try.pinned (OpenSpec.ofChange cycleBeginsSpec)

/-- ITS FALSE NEIGHBOUR: 'it returns false'. Refute it at one input. -/
def cycleBeginsWrong : ChangeSpec := { name := "cycleBegins", fn := fun _ => fun
  | [d1, d2, d3] => { results := [.lit (.bool false)], args := [d1, d2, d3] }
  | _ => none }
def CycleBeginsWrongFalsely : Prop := cycleBeginsRow.holds Try.pinned (OpenSpec.ofChange cycleBeginsWrong)

/-- 'ladderbacklaw24.CycleEnds': WHATEVER THE INPUT: true; the input reads as it did. -/
def cycleEndsSpec : ChangeSpec := { name := "cycleEnds", fn := fun _ => fun
  | [d1, d2, d3] => { results := [.lit (.bool true)], args := [d1, d2, d3] }
  | _ => none }
def cycleEndsRow : OpenClaim := { program := "ytamajfcjcfkkjaa", sum := "355f94f4a63c5b9e7b0cdfb40ad57921954319257e082b6e5ad127e3eef2c38a", func := "ladderback/ladderbacklaw24.CycleEnds", spec := "cycleEnds", unfollowed := true, recurses := true, apart := false }
def CycleEndsSaid : Prop := cycleEndsRow.holds Try.pinned (OpenSpec.ofChange cycleEndsSpec)

/-- ITS FALSE NEIGHBOUR: 'it returns false'. Refute it at one input. -/
def cycleEndsWrong : ChangeSpec := { name := "cycleEnds", fn := fun _ => fun
  | [d1, d2, d3] => { results := [.lit (.bool false)], args := [d1, d2, d3] }
  | _ => none }
def CycleEndsWrongFalsely : Prop := cycleEndsRow.holds Try.pinned (OpenSpec.ofChange cycleEndsWrong)

/-- 'ladderbacklaw23.StateWrites': WHATEVER THE INPUT: true; the input reads as it did. -/
def stateWritesSpec : ChangeSpec := { name := "stateWrites", fn := fun _ => fun
  | [d1, d2, d3] => { results := [.lit (.bool true)], args := [d1, d2, d3] }
  | _ => none }
def stateWritesRow : OpenClaim := { program := "ytamajfcjcfkkjaa", sum := "355f94f4a63c5b9e7b0cdfb40ad57921954319257e082b6e5ad127e3eef2c38a", func := "ladderback/ladderbacklaw23.StateWrites", spec := "stateWrites", apart := false }
def StateWritesSaid : Prop := stateWritesRow.holds Try.pinned (OpenSpec.ofChange stateWritesSpec)

/-- ITS FALSE NEIGHBOUR: 'it returns false'. Refute it at one input. -/
def stateWritesWrong : ChangeSpec := { name := "stateWrites", fn := fun _ => fun
  | [d1, d2, d3] => { results := [.lit (.bool false)], args := [d1, d2, d3] }
  | _ => none }
def StateWritesWrongFalsely : Prop := stateWritesRow.holds Try.pinned (OpenSpec.ofChange stateWritesWrong)

/-- 'ladderbacklaw23.StateFits': WHATEVER THE INPUT: true; the input reads as it did. -/
def stateFitsSpec : ChangeSpec := { name := "stateFits", fn := fun _ => fun
  | [d1, d2] => { results := [.lit (.bool true)], args := [d1, d2] }
  | _ => none }
def stateFitsRow : OpenClaim := { program := "ytamajfcjcfkkjaa", sum := "355f94f4a63c5b9e7b0cdfb40ad57921954319257e082b6e5ad127e3eef2c38a", func := "ladderback/ladderbacklaw23.StateFits", spec := "stateFits", apart := false }
def StateFitsSaid : Prop := stateFitsRow.holds Try.pinned (OpenSpec.ofChange stateFitsSpec)

/-- ITS FALSE NEIGHBOUR: 'it returns false'. Refute it at one input. -/
def stateFitsWrong : ChangeSpec := { name := "stateFits", fn := fun _ => fun
  | [d1, d2] => { results := [.lit (.bool false)], args := [d1, d2] }
  | _ => none }
def StateFitsWrongFalsely : Prop := stateFitsRow.holds Try.pinned (OpenSpec.ofChange stateFitsWrong)

/-- 'ladderbacklaw23.StateSame': WHATEVER THE INPUT: true; the input reads as it did. -/
def stateSameSpec : ChangeSpec := { name := "stateSame", fn := fun _ => fun
  | [d1, d2, d3] => { results := [.lit (.bool true)], args := [d1, d2, d3] }
  | _ => none }
def stateSameRow : OpenClaim := { program := "ytamajfcjcfkkjaa", sum := "355f94f4a63c5b9e7b0cdfb40ad57921954319257e082b6e5ad127e3eef2c38a", func := "ladderback/ladderbacklaw23.StateSame", spec := "stateSame", unfollowed := true, recurses := true, apart := false }
def StateSameSaid : Prop := stateSameRow.holds Try.pinned (OpenSpec.ofChange stateSameSpec)

/-- ITS FALSE NEIGHBOUR: 'it returns false'. Refute it at one input. -/
def stateSameWrong : ChangeSpec := { name := "stateSame", fn := fun _ => fun
  | [d1, d2, d3] => { results := [.lit (.bool false)], args := [d1, d2, d3] }
  | _ => none }
def StateSameWrongFalsely : Prop := stateSameRow.holds Try.pinned (OpenSpec.ofChange stateSameWrong)

/- THE SECOND FORM. 'bulk': how many values and letters a reading holds, each counted each time it is reached (what is shared counts as often as it is met; a slice's spare places count too). A statement '..UptoSaid' is the law's where the arguments, and the package variables that the reading takes, are together of bulk at most 1048576: NARROWER than '..Said'. Prove '..Said' where nothing that the law and all that it calls make is longer than what came in: it says more and counts as full. Else prove '..UptoSaid'. A law counts once. -/
mutual
def uptoBulk {H : Type} : DataW H → Nat
  | .lit (.string bytes) => bytes.length + 1
  | .lit _ => 1
  | .nil => 1
  | .ptr d => uptoBulk d + 1
  | .slice elems spare => uptoBulkAll elems + uptoBulkAll spare + 1
  | .agg parts => uptoBulkAll parts + 1
  | .iface _ d => uptoBulk d + 1
  | .map entries => uptoBulkEntries entries + 1
  | .held _ => 1
def uptoBulkAll {H : Type} : List (DataW H) → Nat
  | [] => 0
  | d :: r => uptoBulk d + uptoBulkAll r
def uptoBulkEntries {H : Type} : List (Lit × DataW H) → Nat
  | [] => 0
  | x :: r => uptoBulkEntry x + uptoBulkEntries r
def uptoBulkEntry {H : Type} : Lit × DataW H → Nat
  | (.string bytes, d) => bytes.length + uptoBulk d + 1
  | (_, d) => uptoBulk d + 1
 end
def uptoSmall : (H : Type) → List (DataW H) → Bool := fun _ ds => decide (uptoBulkAll ds ≤ 1048576)
def OpenSpec.upto (s : _root_.Go.ChangeSpec) : _root_.Go.OpenSpec := { _root_.Go.OpenSpec.ofChange s with cond := some uptoSmall }

/-- 'ladderbacklaw24.CycleBegins', WHERE WHAT IT READS IS OF BULK AT MOST 1048576: true; the input reads as it did. -/
def cycleBeginsUptoRow : OpenClaim := { program := "ytamajfcjcfkkjaa", sum := "355f94f4a63c5b9e7b0cdfb40ad57921954319257e082b6e5ad127e3eef2c38a", func := "ladderback/ladderbacklaw24.CycleBegins", spec := "cycleBegins", unfollowed := true, recurses := true, apart := false, narrowed := true }
def CycleBeginsUptoSaid : Prop := cycleBeginsUptoRow.holds Try.pinned (OpenSpec.upto cycleBeginsSpec)

/-- 'ladderbacklaw24.CycleEnds', WHERE WHAT IT READS IS OF BULK AT MOST 1048576: true; the input reads as it did. -/
def cycleEndsUptoRow : OpenClaim := { program := "ytamajfcjcfkkjaa", sum := "355f94f4a63c5b9e7b0cdfb40ad57921954319257e082b6e5ad127e3eef2c38a", func := "ladderback/ladderbacklaw24.CycleEnds", spec := "cycleEnds", unfollowed := true, recurses := true, apart := false, narrowed := true }
def CycleEndsUptoSaid : Prop := cycleEndsUptoRow.holds Try.pinned (OpenSpec.upto cycleEndsSpec)

/-- 'ladderbacklaw23.StateWrites', WHERE WHAT IT READS IS OF BULK AT MOST 1048576: true; the input reads as it did. -/
def stateWritesUptoRow : OpenClaim := { program := "ytamajfcjcfkkjaa", sum := "355f94f4a63c5b9e7b0cdfb40ad57921954319257e082b6e5ad127e3eef2c38a", func := "ladderback/ladderbacklaw23.StateWrites", spec := "stateWrites", apart := false, narrowed := true }
def StateWritesUptoSaid : Prop := stateWritesUptoRow.holds Try.pinned (OpenSpec.upto stateWritesSpec)

/-- 'ladderbacklaw23.StateFits', WHERE WHAT IT READS IS OF BULK AT MOST 1048576: true; the input reads as it did. -/
def stateFitsUptoRow : OpenClaim := { program := "ytamajfcjcfkkjaa", sum := "355f94f4a63c5b9e7b0cdfb40ad57921954319257e082b6e5ad127e3eef2c38a", func := "ladderback/ladderbacklaw23.StateFits", spec := "stateFits", apart := false, narrowed := true }
def StateFitsUptoSaid : Prop := stateFitsUptoRow.holds Try.pinned (OpenSpec.upto stateFitsSpec)

/-- 'ladderbacklaw23.StateSame', WHERE WHAT IT READS IS OF BULK AT MOST 1048576: true; the input reads as it did. -/
def stateSameUptoRow : OpenClaim := { program := "ytamajfcjcfkkjaa", sum := "355f94f4a63c5b9e7b0cdfb40ad57921954319257e082b6e5ad127e3eef2c38a", func := "ladderback/ladderbacklaw23.StateSame", spec := "stateSame", unfollowed := true, recurses := true, apart := false, narrowed := true }
def StateSameUptoSaid : Prop := stateSameUptoRow.holds Try.pinned (OpenSpec.upto stateSameSpec)

end Rows
end Go.Proofs.Ytamajfcjcfkkjaa

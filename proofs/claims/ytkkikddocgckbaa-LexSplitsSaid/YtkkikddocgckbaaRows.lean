/-
  NARROWER THAN 'FOR EVERY INPUT', by the rows' own cells (each row's printed sentence says how): PowerPaths: loops · PowerReduces: loops · DispMakes: loops.
  DERIVED. THE GIVEN ROWS OF THIS SEAT. 8 by the template 'for every input the law returns true; each argument reads behind the call as it read before'; 0 by the template 'total and deterministic' (their statements: YtkkikddocgckbaaTotals.lean).
  GIVEN WITH THE SEED: the statements are not yours to turn. If you find one false, say at which input.
  Laid BY PROGRAM, IN A SANDBOX (cutbox-rows.mjs): the forced cells as the released guide's own fill.sh prints them over the translation e0054e16d77d9d28… (all of the seat's roots in one cut). By AI agents, Wed Nov 11 2026. No macro, syntax, notation, axiom, sorry.
-/
import Derived.Test.YtkkikddocgckbaaChecked
import GoSem.Claim
import GoSem.ClaimJoined
import GoSem.ClaimMapViews
import Derived.JoinedTies
import Derived.KernelRfl
namespace Go.Proofs.Ytkkikddocgckbaa
/- THE CELL 'sum', in the pinned program and in every row, IS THE sha256 OF THE DUMP (.gsa) THAT YtkkikddocgckbaaProg.lean LOADS. Nothing in Lean hashes anything: it is a label: what it is worth is what the hold of that sum in a sandbox is worth. -/
noncomputable def Try.pinned : Pinned := { name := "ytkkikddocgckbaa", sum := "e0054e16d77d9d28b17711ad6c38c13e6d06236ae98e1d3c006a36947cc38506", checked := Try.checked }
namespace Rows
def none {H : Type} : Left H := { results := [], args := [] }

/-- 'ladderbacklaw23.StateWrites': WHATEVER THE INPUT: true; the input reads as it did. -/
def stateWritesSpec : ChangeSpec := { name := "stateWrites", fn := fun _ => fun
  | [d1, d2, d3] => { results := [.lit (.bool true)], args := [d1, d2, d3] }
  | _ => none }
def stateWritesRow : OpenClaim := { program := "ytkkikddocgckbaa", sum := "e0054e16d77d9d28b17711ad6c38c13e6d06236ae98e1d3c006a36947cc38506", func := "ladderback/ladderbacklaw23.StateWrites", spec := "stateWrites", plainKeys := false, apart := false }
def StateWritesSaid : Prop := stateWritesRow.holds Try.pinned (OpenSpec.ofChange stateWritesSpec)

/-- ITS FALSE NEIGHBOUR: 'it returns false'. Refute it at one input. -/
def stateWritesWrong : ChangeSpec := { name := "stateWrites", fn := fun _ => fun
  | [d1, d2, d3] => { results := [.lit (.bool false)], args := [d1, d2, d3] }
  | _ => none }
def StateWritesWrongFalsely : Prop := stateWritesRow.holds Try.pinned (OpenSpec.ofChange stateWritesWrong)

/-- 'ladderbacklaw23.StateFits': WHATEVER THE INPUT: true; the input reads as it did. -/
def stateFitsSpec : ChangeSpec := { name := "stateFits", fn := fun _ => fun
  | [d1, d2] => { results := [.lit (.bool true)], args := [d1, d2] }
  | _ => none }
def stateFitsRow : OpenClaim := { program := "ytkkikddocgckbaa", sum := "e0054e16d77d9d28b17711ad6c38c13e6d06236ae98e1d3c006a36947cc38506", func := "ladderback/ladderbacklaw23.StateFits", spec := "stateFits", plainKeys := false, apart := false }
def StateFitsSaid : Prop := stateFitsRow.holds Try.pinned (OpenSpec.ofChange stateFitsSpec)

/-- ITS FALSE NEIGHBOUR: 'it returns false'. Refute it at one input. -/
def stateFitsWrong : ChangeSpec := { name := "stateFits", fn := fun _ => fun
  | [d1, d2] => { results := [.lit (.bool false)], args := [d1, d2] }
  | _ => none }
def StateFitsWrongFalsely : Prop := stateFitsRow.holds Try.pinned (OpenSpec.ofChange stateFitsWrong)

/-- 'ladderbacklaw23.StateSame': WHATEVER THE INPUT: true; the input reads as it did. -/
def stateSameSpec : ChangeSpec := { name := "stateSame", fn := fun _ => fun
  | [d1, d2, d3] => { results := [.lit (.bool true)], args := [d1, d2, d3] }
  | _ => none }
def stateSameRow : OpenClaim := { program := "ytkkikddocgckbaa", sum := "e0054e16d77d9d28b17711ad6c38c13e6d06236ae98e1d3c006a36947cc38506", func := "ladderback/ladderbacklaw23.StateSame", spec := "stateSame", unfollowed := true, recurses := true, plainKeys := false, apart := false }
def StateSameSaid : Prop := stateSameRow.holds Try.pinned (OpenSpec.ofChange stateSameSpec)

/-- ITS FALSE NEIGHBOUR: 'it returns false'. Refute it at one input. -/
def stateSameWrong : ChangeSpec := { name := "stateSame", fn := fun _ => fun
  | [d1, d2, d3] => { results := [.lit (.bool false)], args := [d1, d2, d3] }
  | _ => none }
def StateSameWrongFalsely : Prop := stateSameRow.holds Try.pinned (OpenSpec.ofChange stateSameWrong)

/-- 'ladderbacklaw47.LexSplits': WHATEVER THE INPUT: true; the input reads as it did. -/
def lexSplitsSpec : ChangeSpec := { name := "lexSplits", fn := fun _ => fun
  | [d] => { results := [.lit (.bool true)], args := [d] }
  | _ => none }
def lexSplitsRow : OpenClaim := { program := "ytkkikddocgckbaa", sum := "e0054e16d77d9d28b17711ad6c38c13e6d06236ae98e1d3c006a36947cc38506", func := "ladderback/ladderbacklaw47.LexSplits", spec := "lexSplits", inPlace := ["internal/bytealg.IndexByteString"], unfollowed := true, recurses := true, plainKeys := false, apart := false }
def LexSplitsSaid : Prop := lexSplitsRow.holds Try.pinned (OpenSpec.ofChange lexSplitsSpec)

/-- ITS FALSE NEIGHBOUR: 'it returns false'. Refute it at one input. -/
def lexSplitsWrong : ChangeSpec := { name := "lexSplits", fn := fun _ => fun
  | [d] => { results := [.lit (.bool false)], args := [d] }
  | _ => none }
def LexSplitsWrongFalsely : Prop := lexSplitsRow.holds Try.pinned (OpenSpec.ofChange lexSplitsWrong)

/-- 'ladderbacklaw47.LexBack': WHATEVER THE INPUT: true; the input reads as it did. -/
def lexBackSpec : ChangeSpec := { name := "lexBack", fn := fun _ => fun
  | [d] => { results := [.lit (.bool true)], args := [d] }
  | _ => none }
def lexBackRow : OpenClaim := { program := "ytkkikddocgckbaa", sum := "e0054e16d77d9d28b17711ad6c38c13e6d06236ae98e1d3c006a36947cc38506", func := "ladderback/ladderbacklaw47.LexBack", spec := "lexBack", inPlace := ["internal/bytealg.IndexByteString", "internal/abi.NoEscape"], unfollowed := true, recurses := true, plainKeys := false, apart := false }
def LexBackSaid : Prop := lexBackRow.holds Try.pinned (OpenSpec.ofChange lexBackSpec)

/-- ITS FALSE NEIGHBOUR: 'it returns false'. Refute it at one input. -/
def lexBackWrong : ChangeSpec := { name := "lexBack", fn := fun _ => fun
  | [d] => { results := [.lit (.bool false)], args := [d] }
  | _ => none }
def LexBackWrongFalsely : Prop := lexBackRow.holds Try.pinned (OpenSpec.ofChange lexBackWrong)

/-- 'ladderbacklaw45.PowerPaths': WHATEVER THE INPUT: true; the input reads as it did. -/
def powerPathsSpec : ChangeSpec := { name := "powerPaths", fn := fun _ => fun
  | [d1, d2] => { results := [.lit (.bool true)], args := [d1, d2] }
  | _ => none }
def powerPathsRow : OpenClaim := { program := "ytkkikddocgckbaa", sum := "e0054e16d77d9d28b17711ad6c38c13e6d06236ae98e1d3c006a36947cc38506", func := "ladderback/ladderbacklaw45.PowerPaths", spec := "powerPaths", recurses := true, loops := true, plainKeys := false, apart := false }
def PowerPathsSaid : Prop := powerPathsRow.holds Try.pinned (OpenSpec.ofChange powerPathsSpec)

/-- ITS FALSE NEIGHBOUR: 'it returns false'. Refute it at one input. -/
def powerPathsWrong : ChangeSpec := { name := "powerPaths", fn := fun _ => fun
  | [d1, d2] => { results := [.lit (.bool false)], args := [d1, d2] }
  | _ => none }
def PowerPathsWrongFalsely : Prop := powerPathsRow.holds Try.pinned (OpenSpec.ofChange powerPathsWrong)

/-- 'ladderbacklaw45.PowerReduces': WHATEVER THE INPUT: true; the input reads as it did. -/
def powerReducesSpec : ChangeSpec := { name := "powerReduces", fn := fun _ => fun
  | [d] => { results := [.lit (.bool true)], args := [d] }
  | _ => none }
def powerReducesRow : OpenClaim := { program := "ytkkikddocgckbaa", sum := "e0054e16d77d9d28b17711ad6c38c13e6d06236ae98e1d3c006a36947cc38506", func := "ladderback/ladderbacklaw45.PowerReduces", spec := "powerReduces", recurses := true, loops := true, plainKeys := false, apart := false }
def PowerReducesSaid : Prop := powerReducesRow.holds Try.pinned (OpenSpec.ofChange powerReducesSpec)

/-- ITS FALSE NEIGHBOUR: 'it returns false'. Refute it at one input. -/
def powerReducesWrong : ChangeSpec := { name := "powerReduces", fn := fun _ => fun
  | [d] => { results := [.lit (.bool false)], args := [d] }
  | _ => none }
def PowerReducesWrongFalsely : Prop := powerReducesRow.holds Try.pinned (OpenSpec.ofChange powerReducesWrong)

/-- 'ladderbacklaw42.DispMakes': WHATEVER THE INPUT: true; the input reads as it did. -/
def dispMakesSpec : ChangeSpec := { name := "dispMakes", fn := fun _ => fun
  | [d1, d2] => { results := [.lit (.bool true)], args := [d1, d2] }
  | _ => none }
def dispMakesRow : OpenClaim := { program := "ytkkikddocgckbaa", sum := "e0054e16d77d9d28b17711ad6c38c13e6d06236ae98e1d3c006a36947cc38506", func := "ladderback/ladderbacklaw42.DispMakes", spec := "dispMakes", recurses := true, loops := true, plainKeys := false, apart := false }
def DispMakesSaid : Prop := dispMakesRow.holds Try.pinned (OpenSpec.ofChange dispMakesSpec)

/-- ITS FALSE NEIGHBOUR: 'it returns false'. Refute it at one input. -/
def dispMakesWrong : ChangeSpec := { name := "dispMakes", fn := fun _ => fun
  | [d1, d2] => { results := [.lit (.bool false)], args := [d1, d2] }
  | _ => none }
def DispMakesWrongFalsely : Prop := dispMakesRow.holds Try.pinned (OpenSpec.ofChange dispMakesWrong)

/- THE SECOND FORM. 'bulk': how many values and letters a reading holds, each counted each time it is reached (what is shared counts as often as it is met; a slice's spare places count too). A statement '..UptoSaid' is the law's where the arguments, and the package variables that the reading takes, are together of bulk at most 1048576: NARROWER than '..Said'. Prove '..Said' where nothing that the law and all that it calls make is longer than what came in: it says more and counts as full. Else prove '..UptoSaid'. A law counts once. -/
mutual
def uptoBulk {H : Type} : DataW H → Nat
  | .lit (.string bytes) => bytes.length + 1
  | .lit _ => 1
  | .nil => 1
  | .ptr d => uptoBulk d + 1
  | .slice elems spare => uptoBulkAll elems + uptoBulkAll spare + 1
  | .agg parts => uptoBulkAll parts + 1
  | .iface _ d => uptoBulk d + 1
  | .map entries => uptoBulkEntries entries + 1
  | .held _ => 1
def uptoBulkAll {H : Type} : List (DataW H) → Nat
  | [] => 0
  | d :: r => uptoBulk d + uptoBulkAll r
def uptoBulkEntries {H : Type} : List (Lit × DataW H) → Nat
  | [] => 0
  | x :: r => uptoBulkEntry x + uptoBulkEntries r
def uptoBulkEntry {H : Type} : Lit × DataW H → Nat
  | (.string bytes, d) => bytes.length + uptoBulk d + 1
  | (_, d) => uptoBulk d + 1
 end
def uptoSmall : (H : Type) → List (DataW H) → Bool := fun _ ds => decide (uptoBulkAll ds ≤ 1048576)
def OpenSpec.upto (s : _root_.Go.ChangeSpec) : _root_.Go.OpenSpec := { _root_.Go.OpenSpec.ofChange s with cond := some uptoSmall }

/-- 'ladderbacklaw23.StateWrites', WHERE WHAT IT READS IS OF BULK AT MOST 1048576: true; the input reads as it did. -/
def stateWritesUptoRow : OpenClaim := { program := "ytkkikddocgckbaa", sum := "e0054e16d77d9d28b17711ad6c38c13e6d06236ae98e1d3c006a36947cc38506", func := "ladderback/ladderbacklaw23.StateWrites", spec := "stateWrites", plainKeys := false, apart := false, narrowed := true }
def StateWritesUptoSaid : Prop := stateWritesUptoRow.holds Try.pinned (OpenSpec.upto stateWritesSpec)

/-- 'ladderbacklaw23.StateFits', WHERE WHAT IT READS IS OF BULK AT MOST 1048576: true; the input reads as it did. -/
def stateFitsUptoRow : OpenClaim := { program := "ytkkikddocgckbaa", sum := "e0054e16d77d9d28b17711ad6c38c13e6d06236ae98e1d3c006a36947cc38506", func := "ladderback/ladderbacklaw23.StateFits", spec := "stateFits", plainKeys := false, apart := false, narrowed := true }
def StateFitsUptoSaid : Prop := stateFitsUptoRow.holds Try.pinned (OpenSpec.upto stateFitsSpec)

/-- 'ladderbacklaw23.StateSame', WHERE WHAT IT READS IS OF BULK AT MOST 1048576: true; the input reads as it did. -/
def stateSameUptoRow : OpenClaim := { program := "ytkkikddocgckbaa", sum := "e0054e16d77d9d28b17711ad6c38c13e6d06236ae98e1d3c006a36947cc38506", func := "ladderback/ladderbacklaw23.StateSame", spec := "stateSame", unfollowed := true, recurses := true, plainKeys := false, apart := false, narrowed := true }
def StateSameUptoSaid : Prop := stateSameUptoRow.holds Try.pinned (OpenSpec.upto stateSameSpec)

/-- 'ladderbacklaw47.LexSplits', WHERE WHAT IT READS IS OF BULK AT MOST 1048576: true; the input reads as it did. -/
def lexSplitsUptoRow : OpenClaim := { program := "ytkkikddocgckbaa", sum := "e0054e16d77d9d28b17711ad6c38c13e6d06236ae98e1d3c006a36947cc38506", func := "ladderback/ladderbacklaw47.LexSplits", spec := "lexSplits", inPlace := ["internal/bytealg.IndexByteString"], unfollowed := true, recurses := true, plainKeys := false, apart := false, narrowed := true }
def LexSplitsUptoSaid : Prop := lexSplitsUptoRow.holds Try.pinned (OpenSpec.upto lexSplitsSpec)

/-- 'ladderbacklaw47.LexBack', WHERE WHAT IT READS IS OF BULK AT MOST 1048576: true; the input reads as it did. -/
def lexBackUptoRow : OpenClaim := { program := "ytkkikddocgckbaa", sum := "e0054e16d77d9d28b17711ad6c38c13e6d06236ae98e1d3c006a36947cc38506", func := "ladderback/ladderbacklaw47.LexBack", spec := "lexBack", inPlace := ["internal/bytealg.IndexByteString", "internal/abi.NoEscape"], unfollowed := true, recurses := true, plainKeys := false, apart := false, narrowed := true }
def LexBackUptoSaid : Prop := lexBackUptoRow.holds Try.pinned (OpenSpec.upto lexBackSpec)

/-- 'ladderbacklaw45.PowerPaths', WHERE WHAT IT READS IS OF BULK AT MOST 1048576: true; the input reads as it did. -/
def powerPathsUptoRow : OpenClaim := { program := "ytkkikddocgckbaa", sum := "e0054e16d77d9d28b17711ad6c38c13e6d06236ae98e1d3c006a36947cc38506", func := "ladderback/ladderbacklaw45.PowerPaths", spec := "powerPaths", recurses := true, loops := true, plainKeys := false, apart := false, narrowed := true }
def PowerPathsUptoSaid : Prop := powerPathsUptoRow.holds Try.pinned (OpenSpec.upto powerPathsSpec)

/-- 'ladderbacklaw45.PowerReduces', WHERE WHAT IT READS IS OF BULK AT MOST 1048576: true; the input reads as it did. -/
def powerReducesUptoRow : OpenClaim := { program := "ytkkikddocgckbaa", sum := "e0054e16d77d9d28b17711ad6c38c13e6d06236ae98e1d3c006a36947cc38506", func := "ladderback/ladderbacklaw45.PowerReduces", spec := "powerReduces", recurses := true, loops := true, plainKeys := false, apart := false, narrowed := true }
def PowerReducesUptoSaid : Prop := powerReducesUptoRow.holds Try.pinned (OpenSpec.upto powerReducesSpec)

/-- 'ladderbacklaw42.DispMakes', WHERE WHAT IT READS IS OF BULK AT MOST 1048576: true; the input reads as it did. -/
def dispMakesUptoRow : OpenClaim := { program := "ytkkikddocgckbaa", sum := "e0054e16d77d9d28b17711ad6c38c13e6d06236ae98e1d3c006a36947cc38506", func := "ladderback/ladderbacklaw42.DispMakes", spec := "dispMakes", recurses := true, loops := true, plainKeys := false, apart := false, narrowed := true }
def DispMakesUptoSaid : Prop := dispMakesUptoRow.holds Try.pinned (OpenSpec.upto dispMakesSpec)

end Rows
end Go.Proofs.Ytkkikddocgckbaa

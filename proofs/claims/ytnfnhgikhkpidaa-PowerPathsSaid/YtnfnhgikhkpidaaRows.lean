/-
  NARROWER THAN 'FOR EVERY INPUT', by the rows' own cells (each row's printed sentence says how): DispMakes: loops · PowerPaths: loops · PowerReduces: loops.
  DERIVED. THE GIVEN ROWS OF THIS SEAT. 3 by the template 'for every input the law returns true; each argument reads behind the call as it read before'; 0 by the template 'total and deterministic' (their statements: YtnfnhgikhkpidaaTotals.lean).
  GIVEN WITH THE SEED: the statements are not yours to turn. If you find one false, say at which input.
  Laid BY PROGRAM, IN A SANDBOX (cutbox-rows.mjs): the forced cells as the released guide's own fill.sh prints them over the translation 788f221f33ea3f76… (all of the seat's roots in one cut). By AI agents, Wed Nov 11 2026. No macro, syntax, notation, axiom, sorry.
-/
import Derived.Test.YtnfnhgikhkpidaaChecked
import GoSem.Claim
import GoSem.ClaimJoined
import GoSem.ClaimMapViews
import Derived.JoinedTies
import Derived.KernelRfl
namespace Go.Proofs.Ytnfnhgikhkpidaa
/- THE CELL 'sum', in the pinned program and in every row, IS THE sha256 OF THE DUMP (.gsa) THAT YtnfnhgikhkpidaaProg.lean LOADS. Nothing in Lean hashes anything: it is a label: what it is worth is what the hold of that sum in a sandbox is worth. -/
noncomputable def Try.pinned : Pinned := { name := "ytnfnhgikhkpidaa", sum := "788f221f33ea3f76a6422b34ad156a8f02e1b2b16f42f6b379d22569ba006ad7", checked := Try.checked }
namespace Rows
def none {H : Type} : Left H := { results := [], args := [] }

/-- 'ladderbacklaw42.DispMakes': WHATEVER THE INPUT: true; the input reads as it did. -/
def dispMakesSpec : ChangeSpec := { name := "dispMakes", fn := fun _ => fun
  | [d1, d2] => { results := [.lit (.bool true)], args := [d1, d2] }
  | _ => none }
def dispMakesRow : OpenClaim := { program := "ytnfnhgikhkpidaa", sum := "788f221f33ea3f76a6422b34ad156a8f02e1b2b16f42f6b379d22569ba006ad7", func := "ladderback/ladderbacklaw42.DispMakes", spec := "dispMakes", recurses := true, loops := true, plainKeys := false, apart := false }
def DispMakesSaid : Prop := dispMakesRow.holds Try.pinned (OpenSpec.ofChange dispMakesSpec)

/-- ITS FALSE NEIGHBOUR: 'it returns false'. Refute it at one input. -/
def dispMakesWrong : ChangeSpec := { name := "dispMakes", fn := fun _ => fun
  | [d1, d2] => { results := [.lit (.bool false)], args := [d1, d2] }
  | _ => none }
def DispMakesWrongFalsely : Prop := dispMakesRow.holds Try.pinned (OpenSpec.ofChange dispMakesWrong)

/-- 'ladderbacklaw45.PowerPaths': WHATEVER THE INPUT: true; the input reads as it did. -/
def powerPathsSpec : ChangeSpec := { name := "powerPaths", fn := fun _ => fun
  | [d1, d2] => { results := [.lit (.bool true)], args := [d1, d2] }
  | _ => none }
def powerPathsRow : OpenClaim := { program := "ytnfnhgikhkpidaa", sum := "788f221f33ea3f76a6422b34ad156a8f02e1b2b16f42f6b379d22569ba006ad7", func := "ladderback/ladderbacklaw45.PowerPaths", spec := "powerPaths", recurses := true, loops := true, plainKeys := false, apart := false }
def PowerPathsSaid : Prop := powerPathsRow.holds Try.pinned (OpenSpec.ofChange powerPathsSpec)

/-- ITS FALSE NEIGHBOUR: 'it returns false'. Refute it at one input. -/
def powerPathsWrong : ChangeSpec := { name := "powerPaths", fn := fun _ => fun
  | [d1, d2] => { results := [.lit (.bool false)], args := [d1, d2] }
  | _ => none }
def PowerPathsWrongFalsely : Prop := powerPathsRow.holds Try.pinned (OpenSpec.ofChange powerPathsWrong)

/-- 'ladderbacklaw45.PowerReduces': WHATEVER THE INPUT: true; the input reads as it did. -/
def powerReducesSpec : ChangeSpec := { name := "powerReduces", fn := fun _ => fun
  | [d] => { results := [.lit (.bool true)], args := [d] }
  | _ => none }
def powerReducesRow : OpenClaim := { program := "ytnfnhgikhkpidaa", sum := "788f221f33ea3f76a6422b34ad156a8f02e1b2b16f42f6b379d22569ba006ad7", func := "ladderback/ladderbacklaw45.PowerReduces", spec := "powerReduces", recurses := true, loops := true, plainKeys := false, apart := false }
def PowerReducesSaid : Prop := powerReducesRow.holds Try.pinned (OpenSpec.ofChange powerReducesSpec)

/-- ITS FALSE NEIGHBOUR: 'it returns false'. Refute it at one input. -/
def powerReducesWrong : ChangeSpec := { name := "powerReduces", fn := fun _ => fun
  | [d] => { results := [.lit (.bool false)], args := [d] }
  | _ => none }
def PowerReducesWrongFalsely : Prop := powerReducesRow.holds Try.pinned (OpenSpec.ofChange powerReducesWrong)

/- THE SECOND FORM. 'bulk': how many values and letters a reading holds, each counted each time it is reached (what is shared counts as often as it is met; a slice's spare places count too). A statement '..UptoSaid' is the law's where the arguments, and the package variables that the reading takes, are together of bulk at most 1048576: NARROWER than '..Said'. Prove '..Said' where nothing that the law and all that it calls make is longer than what came in: it says more and counts as full. Else prove '..UptoSaid'. A law counts once. -/
mutual
def uptoBulk {H : Type} : DataW H → Nat
  | .lit (.string bytes) => bytes.length + 1
  | .lit _ => 1
  | .nil => 1
  | .ptr d => uptoBulk d + 1
  | .slice elems spare => uptoBulkAll elems + uptoBulkAll spare + 1
  | .agg parts => uptoBulkAll parts + 1
  | .iface _ d => uptoBulk d + 1
  | .map entries => uptoBulkEntries entries + 1
  | .held _ => 1
def uptoBulkAll {H : Type} : List (DataW H) → Nat
  | [] => 0
  | d :: r => uptoBulk d + uptoBulkAll r
def uptoBulkEntries {H : Type} : List (Lit × DataW H) → Nat
  | [] => 0
  | x :: r => uptoBulkEntry x + uptoBulkEntries r
def uptoBulkEntry {H : Type} : Lit × DataW H → Nat
  | (.string bytes, d) => bytes.length + uptoBulk d + 1
  | (_, d) => uptoBulk d + 1
 end
def uptoSmall : (H : Type) → List (DataW H) → Bool := fun _ ds => decide (uptoBulkAll ds ≤ 1048576)
def OpenSpec.upto (s : _root_.Go.ChangeSpec) : _root_.Go.OpenSpec := { _root_.Go.OpenSpec.ofChange s with cond := some uptoSmall }

/-- 'ladderbacklaw42.DispMakes', WHERE WHAT IT READS IS OF BULK AT MOST 1048576: true; the input reads as it did. -/
def dispMakesUptoRow : OpenClaim := { program := "ytnfnhgikhkpidaa", sum := "788f221f33ea3f76a6422b34ad156a8f02e1b2b16f42f6b379d22569ba006ad7", func := "ladderback/ladderbacklaw42.DispMakes", spec := "dispMakes", recurses := true, loops := true, plainKeys := false, apart := false, narrowed := true }
def DispMakesUptoSaid : Prop := dispMakesUptoRow.holds Try.pinned (OpenSpec.upto dispMakesSpec)

/-- 'ladderbacklaw45.PowerPaths', WHERE WHAT IT READS IS OF BULK AT MOST 1048576: true; the input reads as it did. -/
def powerPathsUptoRow : OpenClaim := { program := "ytnfnhgikhkpidaa", sum := "788f221f33ea3f76a6422b34ad156a8f02e1b2b16f42f6b379d22569ba006ad7", func := "ladderback/ladderbacklaw45.PowerPaths", spec := "powerPaths", recurses := true, loops := true, plainKeys := false, apart := false, narrowed := true }
def PowerPathsUptoSaid : Prop := powerPathsUptoRow.holds Try.pinned (OpenSpec.upto powerPathsSpec)

/-- 'ladderbacklaw45.PowerReduces', WHERE WHAT IT READS IS OF BULK AT MOST 1048576: true; the input reads as it did. -/
def powerReducesUptoRow : OpenClaim := { program := "ytnfnhgikhkpidaa", sum := "788f221f33ea3f76a6422b34ad156a8f02e1b2b16f42f6b379d22569ba006ad7", func := "ladderback/ladderbacklaw45.PowerReduces", spec := "powerReduces", recurses := true, loops := true, plainKeys := false, apart := false, narrowed := true }
def PowerReducesUptoSaid : Prop := powerReducesUptoRow.holds Try.pinned (OpenSpec.upto powerReducesSpec)

end Rows
end Go.Proofs.Ytnfnhgikhkpidaa

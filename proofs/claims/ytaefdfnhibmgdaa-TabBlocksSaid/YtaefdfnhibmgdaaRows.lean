/-
  No cell of these rows narrows 'for every input' (looked for: loops, veiled, ifaces, maps, wideKeys, modest, calm, conditions, laid).
  DERIVED. THE GIVEN ROWS OF THIS SEAT. 3 by the template 'for every input the law returns true; each argument reads behind the call as it read before'; 0 by the template 'total and deterministic' (their statements: YtaefdfnhibmgdaaTotals.lean).
  GIVEN WITH THE SEED: the statements are not yours to turn. If you find one false, say at which input.
  Laid BY PROGRAM, IN A SANDBOX (cutbox-rows.mjs): the forced cells as the released guide's own fill.sh prints them over the translation a1f76e0e02519332… (all of the seat's roots in one cut). By AI agents, Wed Nov 11 2026. No macro, syntax, notation, axiom, sorry.
-/
import Derived.Test.YtaefdfnhibmgdaaChecked
import GoSem.Claim
import GoSem.ClaimJoined
import GoSem.ClaimMapViews
import Derived.JoinedTies
import Derived.KernelRfl
namespace Go.Proofs.Ytaefdfnhibmgdaa
/- THE CELL 'sum', in the pinned program and in every row, IS THE sha256 OF THE DUMP (.gsa) THAT YtaefdfnhibmgdaaProg.lean LOADS. Nothing in Lean hashes anything: it is a label: what it is worth is what the hold of that sum in a sandbox is worth. -/
noncomputable def Try.pinned : Pinned := { name := "ytaefdfnhibmgdaa", sum := "a1f76e0e02519332dd282466c537004919a75556ea35e89b04d39671abaf7059", checked := Try.checked }
namespace Rows
def none {H : Type} : Left H := { results := [], args := [] }

/-- 'ladderbacklaw14.TabConsts': WHATEVER THE INPUT: true; the input reads as it did. -/
def tabConstsSpec : ChangeSpec := { name := "tabConsts", fn := fun _ => fun
  | [d1, d2] => { results := [.lit (.bool true)], args := [d1, d2] }
  | _ => none }
def tabConstsRow : OpenClaim := { program := "ytaefdfnhibmgdaa", sum := "a1f76e0e02519332dd282466c537004919a75556ea35e89b04d39671abaf7059", func := "ladderback/ladderbacklaw14.TabConsts", spec := "tabConsts", unfollowed := true, recurses := true, apart := false }
def TabConstsSaid : Prop := tabConstsRow.holds Try.pinned (OpenSpec.ofChange tabConstsSpec)

/-- ITS FALSE NEIGHBOUR: 'it returns false'. Refute it at one input. -/
def tabConstsWrong : ChangeSpec := { name := "tabConsts", fn := fun _ => fun
  | [d1, d2] => { results := [.lit (.bool false)], args := [d1, d2] }
  | _ => none }
def TabConstsWrongFalsely : Prop := tabConstsRow.holds Try.pinned (OpenSpec.ofChange tabConstsWrong)

/-- 'ladderbacklaw14.TabBlocks': WHATEVER THE INPUT: true; the input reads as it did. -/
def tabBlocksSpec : ChangeSpec := { name := "tabBlocks", fn := fun _ => fun
  | [d1, d2] => { results := [.lit (.bool true)], args := [d1, d2] }
  | _ => none }
def tabBlocksRow : OpenClaim := { program := "ytaefdfnhibmgdaa", sum := "a1f76e0e02519332dd282466c537004919a75556ea35e89b04d39671abaf7059", func := "ladderback/ladderbacklaw14.TabBlocks", spec := "tabBlocks", unfollowed := true, recurses := true, apart := false }
def TabBlocksSaid : Prop := tabBlocksRow.holds Try.pinned (OpenSpec.ofChange tabBlocksSpec)

/-- ITS FALSE NEIGHBOUR: 'it returns false'. Refute it at one input. -/
def tabBlocksWrong : ChangeSpec := { name := "tabBlocks", fn := fun _ => fun
  | [d1, d2] => { results := [.lit (.bool false)], args := [d1, d2] }
  | _ => none }
def TabBlocksWrongFalsely : Prop := tabBlocksRow.holds Try.pinned (OpenSpec.ofChange tabBlocksWrong)

/-- 'ladderbacklaw14.TabVars': WHATEVER THE INPUT: true; the input reads as it did. -/
def tabVarsSpec : ChangeSpec := { name := "tabVars", fn := fun _ => fun
  | [d1, d2] => { results := [.lit (.bool true)], args := [d1, d2] }
  | _ => none }
def tabVarsRow : OpenClaim := { program := "ytaefdfnhibmgdaa", sum := "a1f76e0e02519332dd282466c537004919a75556ea35e89b04d39671abaf7059", func := "ladderback/ladderbacklaw14.TabVars", spec := "tabVars", unfollowed := true, recurses := true, apart := false }
def TabVarsSaid : Prop := tabVarsRow.holds Try.pinned (OpenSpec.ofChange tabVarsSpec)

/-- ITS FALSE NEIGHBOUR: 'it returns false'. Refute it at one input. -/
def tabVarsWrong : ChangeSpec := { name := "tabVars", fn := fun _ => fun
  | [d1, d2] => { results := [.lit (.bool false)], args := [d1, d2] }
  | _ => none }
def TabVarsWrongFalsely : Prop := tabVarsRow.holds Try.pinned (OpenSpec.ofChange tabVarsWrong)

/- THE SECOND FORM. 'bulk': how many values and letters a reading holds, each counted each time it is reached (what is shared counts as often as it is met; a slice's spare places count too). A statement '..UptoSaid' is the law's where the arguments, and the package variables that the reading takes, are together of bulk at most 1048576: NARROWER than '..Said'. Prove '..Said' where nothing that the law and all that it calls make is longer than what came in: it says more and counts as full. Else prove '..UptoSaid'. A law counts once. -/
mutual
def uptoBulk {H : Type} : DataW H → Nat
  | .lit (.string bytes) => bytes.length + 1
  | .lit _ => 1
  | .nil => 1
  | .ptr d => uptoBulk d + 1
  | .slice elems spare => uptoBulkAll elems + uptoBulkAll spare + 1
  | .agg parts => uptoBulkAll parts + 1
  | .iface _ d => uptoBulk d + 1
  | .map entries => uptoBulkEntries entries + 1
  | .held _ => 1
def uptoBulkAll {H : Type} : List (DataW H) → Nat
  | [] => 0
  | d :: r => uptoBulk d + uptoBulkAll r
def uptoBulkEntries {H : Type} : List (Lit × DataW H) → Nat
  | [] => 0
  | x :: r => uptoBulkEntry x + uptoBulkEntries r
def uptoBulkEntry {H : Type} : Lit × DataW H → Nat
  | (.string bytes, d) => bytes.length + uptoBulk d + 1
  | (_, d) => uptoBulk d + 1
 end
def uptoSmall : (H : Type) → List (DataW H) → Bool := fun _ ds => decide (uptoBulkAll ds ≤ 1048576)
def OpenSpec.upto (s : _root_.Go.ChangeSpec) : _root_.Go.OpenSpec := { _root_.Go.OpenSpec.ofChange s with cond := some uptoSmall }

/-- 'ladderbacklaw14.TabConsts', WHERE WHAT IT READS IS OF BULK AT MOST 1048576: true; the input reads as it did. -/
def tabConstsUptoRow : OpenClaim := { program := "ytaefdfnhibmgdaa", sum := "a1f76e0e02519332dd282466c537004919a75556ea35e89b04d39671abaf7059", func := "ladderback/ladderbacklaw14.TabConsts", spec := "tabConsts", unfollowed := true, recurses := true, apart := false, narrowed := true }
def TabConstsUptoSaid : Prop := tabConstsUptoRow.holds Try.pinned (OpenSpec.upto tabConstsSpec)

/-- 'ladderbacklaw14.TabBlocks', WHERE WHAT IT READS IS OF BULK AT MOST 1048576: true; the input reads as it did. -/
def tabBlocksUptoRow : OpenClaim := { program := "ytaefdfnhibmgdaa", sum := "a1f76e0e02519332dd282466c537004919a75556ea35e89b04d39671abaf7059", func := "ladderback/ladderbacklaw14.TabBlocks", spec := "tabBlocks", unfollowed := true, recurses := true, apart := false, narrowed := true }
def TabBlocksUptoSaid : Prop := tabBlocksUptoRow.holds Try.pinned (OpenSpec.upto tabBlocksSpec)

/-- 'ladderbacklaw14.TabVars', WHERE WHAT IT READS IS OF BULK AT MOST 1048576: true; the input reads as it did. -/
def tabVarsUptoRow : OpenClaim := { program := "ytaefdfnhibmgdaa", sum := "a1f76e0e02519332dd282466c537004919a75556ea35e89b04d39671abaf7059", func := "ladderback/ladderbacklaw14.TabVars", spec := "tabVars", unfollowed := true, recurses := true, apart := false, narrowed := true }
def TabVarsUptoSaid : Prop := tabVarsUptoRow.holds Try.pinned (OpenSpec.upto tabVarsSpec)

end Rows
end Go.Proofs.Ytaefdfnhibmgdaa

/-
  DERIVED. GIVEN WITH THE SEED: THE CARDS: each row of YtdbfgfgbjheibaaDoorRows.lean that lists a variable, with what it lists TIED to the program's text (the seventh form; the later family's looks); each row that meets fmt, with fmt's text TOLD by the authors' own Lean function (tested against real Go, not proved from fmt's source: count such statements apart). THE CARD IS WHAT COUNTS. Prove the row's statement (the work); the ties are given (YtdbfgfgbjheibaaDoorTie.lean); close each card by the builder's one call (the guide's Derived/Test/ToyasCard.lean, 'card_holds'). Laid BY PROGRAM, IN A SANDBOX (cutbox-door.mjs). By AI agents, Wed Nov 11 2026. No macro, syntax, notation, axiom, sorry.
-/
import Derived.Test.YtdbfgfgbjheibaaDoorRows
import GoSem.ClaimSeven
namespace Go.Proofs.YtdbfgfgbjheibaaDoor
namespace Rows

/-- THE TIED CARD OF 'ladderbacklaw16.BoxBack'. -/
def boxBackCard : Claim7 := { stood := { row := boxBackRow, standIns := [], harness := (true, "e24cfc81679b48087b3a716d5e242497c483872766e021a00a1352e0d4707ba6"), looks := true }, kinds := [], alts := [], laidByText := true, laidKinds := [.data], laidTests := true, laidLooks := .later }
def BoxBackCardSaid : Prop := Claim7.holds Tryd.pinned (.plain (OpenSpec.ofChange boxBackSpec)) boxBackCard

/-- THE TIED CARD OF 'ladderbacklaw16.BoxOne'. -/
def boxOneCard : Claim7 := { stood := { row := boxOneRow, standIns := [], harness := (true, "e24cfc81679b48087b3a716d5e242497c483872766e021a00a1352e0d4707ba6"), looks := true }, kinds := [], alts := [], laidByText := true, laidKinds := [.data], laidTests := true, laidLooks := .later }
def BoxOneCardSaid : Prop := Claim7.holds Tryd.pinned (.plain (OpenSpec.ofChange boxOneSpec)) boxOneCard

/-- THE TIED CARD OF 'ladderbacklaw16.BoxEncodes'. -/
def boxEncodesCard : Claim7 := { stood := { row := boxEncodesRow, standIns := [], harness := (true, "e24cfc81679b48087b3a716d5e242497c483872766e021a00a1352e0d4707ba6"), looks := true }, kinds := [], alts := [], laidByText := true, laidKinds := [.data], laidTests := true, laidLooks := .later }
def BoxEncodesCardSaid : Prop := Claim7.holds Tryd.pinned (.plain (OpenSpec.ofChange boxEncodesSpec)) boxEncodesCard

/-- THE TIED CARD OF 'ladderbacklaw16.BoxDecodes'. -/
def boxDecodesCard : Claim7 := { stood := { row := boxDecodesRow, standIns := [], harness := (true, "e24cfc81679b48087b3a716d5e242497c483872766e021a00a1352e0d4707ba6"), looks := true }, kinds := [], alts := [], laidByText := true, laidKinds := [.data], laidTests := true, laidLooks := .later }
def BoxDecodesCardSaid : Prop := Claim7.holds Tryd.pinned (.plain (OpenSpec.ofChange boxDecodesSpec)) boxDecodesCard

/-- THE SECOND FORM's CARD OF 'ladderbacklaw16.BoxBack'. -/
def boxBackUptoCard : Claim7 := { stood := { row := boxBackUptoRow, standIns := [], harness := (true, "e24cfc81679b48087b3a716d5e242497c483872766e021a00a1352e0d4707ba6"), looks := true }, kinds := [], alts := [], laidByText := true, laidKinds := [.data], laidTests := true, laidLooks := .later }
def BoxBackUptoCardSaid : Prop := Claim7.holds Tryd.pinned (.plain (OpenSpec.upto boxBackSpec)) boxBackUptoCard

/-- THE SECOND FORM's CARD OF 'ladderbacklaw16.BoxOne'. -/
def boxOneUptoCard : Claim7 := { stood := { row := boxOneUptoRow, standIns := [], harness := (true, "e24cfc81679b48087b3a716d5e242497c483872766e021a00a1352e0d4707ba6"), looks := true }, kinds := [], alts := [], laidByText := true, laidKinds := [.data], laidTests := true, laidLooks := .later }
def BoxOneUptoCardSaid : Prop := Claim7.holds Tryd.pinned (.plain (OpenSpec.upto boxOneSpec)) boxOneUptoCard

/-- THE SECOND FORM's CARD OF 'ladderbacklaw16.BoxEncodes'. -/
def boxEncodesUptoCard : Claim7 := { stood := { row := boxEncodesUptoRow, standIns := [], harness := (true, "e24cfc81679b48087b3a716d5e242497c483872766e021a00a1352e0d4707ba6"), looks := true }, kinds := [], alts := [], laidByText := true, laidKinds := [.data], laidTests := true, laidLooks := .later }
def BoxEncodesUptoCardSaid : Prop := Claim7.holds Tryd.pinned (.plain (OpenSpec.upto boxEncodesSpec)) boxEncodesUptoCard

/-- THE SECOND FORM's CARD OF 'ladderbacklaw16.BoxDecodes'. -/
def boxDecodesUptoCard : Claim7 := { stood := { row := boxDecodesUptoRow, standIns := [], harness := (true, "e24cfc81679b48087b3a716d5e242497c483872766e021a00a1352e0d4707ba6"), looks := true }, kinds := [], alts := [], laidByText := true, laidKinds := [.data], laidTests := true, laidLooks := .later }
def BoxDecodesUptoCardSaid : Prop := Claim7.holds Tryd.pinned (.plain (OpenSpec.upto boxDecodesSpec)) boxDecodesUptoCard
end Rows
end Go.Proofs.YtdbfgfgbjheibaaDoor

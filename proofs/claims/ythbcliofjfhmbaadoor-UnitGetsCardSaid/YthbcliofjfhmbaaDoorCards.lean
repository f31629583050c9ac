/-
  DERIVED. GIVEN WITH THE SEED: THE CARDS: each row of YthbcliofjfhmbaaDoorRows.lean that lists a variable, with what it lists TIED to the program's text (the seventh form; the later family's looks); each row that meets fmt, with fmt's text TOLD by the authors' own Lean function (tested against real Go, not proved from fmt's source: count such statements apart). THE CARD IS WHAT COUNTS. Prove the row's statement (the work); the ties are given (YthbcliofjfhmbaaDoorTie.lean); close each card by the builder's one call (the guide's Derived/Test/ToyasCard.lean, 'card_holds'). Laid BY PROGRAM, IN A SANDBOX (cutbox-door.mjs). By AI agents, Wed Nov 11 2026. No macro, syntax, notation, axiom, sorry.
-/
import Derived.Test.YthbcliofjfhmbaaDoorRows
import GoSem.ClaimSeven
namespace Go.Proofs.YthbcliofjfhmbaaDoor
namespace Rows

/-- THE TIED CARD OF 'ladderbacklaw13.CodeDecodes'. -/
def codeDecodesCard : Claim7 := { stood := { row := codeDecodesRow, standIns := [], harness := (true, "1233046b7dbed4381bbd78a88dde7b293a02a34471a45f2d6f6abb3311c82b1c"), looks := false }, kinds := [], alts := [], laidByText := true, laidKinds := [.data], laidTests := true, laidLooks := .later }
def CodeDecodesCardSaid : Prop := Claim7.holds Tryd.pinned (.plain (OpenSpec.ofChange codeDecodesSpec)) codeDecodesCard

/-- THE TIED CARD OF 'ladderbacklaw13.CodeBack'. -/
def codeBackCard : Claim7 := { stood := { row := codeBackRow, standIns := [], harness := (true, "1233046b7dbed4381bbd78a88dde7b293a02a34471a45f2d6f6abb3311c82b1c"), looks := false }, kinds := [], alts := [], laidByText := true, laidKinds := [.data], laidTests := true, laidLooks := .later }
def CodeBackCardSaid : Prop := Claim7.holds Tryd.pinned (.plain (OpenSpec.ofChange codeBackSpec)) codeBackCard

/-- THE TIED CARD OF 'ladderbacklaw13.CodeEncodes'. -/
def codeEncodesCard : Claim7 := { stood := { row := codeEncodesRow, standIns := [], harness := (true, "1233046b7dbed4381bbd78a88dde7b293a02a34471a45f2d6f6abb3311c82b1c"), looks := false }, kinds := [], alts := [], laidByText := true, laidKinds := [.data], laidTests := true, laidLooks := .later }
def CodeEncodesCardSaid : Prop := Claim7.holds Tryd.pinned (.plain (OpenSpec.ofChange codeEncodesSpec)) codeEncodesCard

/-- THE TIED CARD OF 'ladderbacklaw15.UnitPuts'. -/
def unitPutsCard : Claim7 := { stood := { row := unitPutsRow, standIns := [], harness := (true, "1233046b7dbed4381bbd78a88dde7b293a02a34471a45f2d6f6abb3311c82b1c"), looks := false }, kinds := [], alts := [], laidByText := true, laidKinds := [.data], laidTests := true, laidLooks := .later }
def UnitPutsCardSaid : Prop := Claim7.holds Tryd.pinned (.plain (OpenSpec.ofChange unitPutsSpec)) unitPutsCard

/-- THE TIED CARD OF 'ladderbacklaw15.UnitGets'. -/
def unitGetsCard : Claim7 := { stood := { row := unitGetsRow, standIns := [], harness := (true, "1233046b7dbed4381bbd78a88dde7b293a02a34471a45f2d6f6abb3311c82b1c"), looks := false }, kinds := [], alts := [], laidByText := true, laidKinds := [.data], laidTests := true, laidLooks := .later }
def UnitGetsCardSaid : Prop := Claim7.holds Tryd.pinned (.plain (OpenSpec.ofChange unitGetsSpec)) unitGetsCard

/-- THE TIED CARD OF 'ladderbacklaw15.UnitBack'. -/
def unitBackCard : Claim7 := { stood := { row := unitBackRow, standIns := [], harness := (true, "1233046b7dbed4381bbd78a88dde7b293a02a34471a45f2d6f6abb3311c82b1c"), looks := false }, kinds := [], alts := [], laidByText := true, laidKinds := [.data], laidTests := true, laidLooks := .later }
def UnitBackCardSaid : Prop := Claim7.holds Tryd.pinned (.plain (OpenSpec.ofChange unitBackSpec)) unitBackCard

/-- THE SECOND FORM's CARD OF 'ladderbacklaw13.CodeDecodes'. -/
def codeDecodesUptoCard : Claim7 := { stood := { row := codeDecodesUptoRow, standIns := [], harness := (true, "1233046b7dbed4381bbd78a88dde7b293a02a34471a45f2d6f6abb3311c82b1c"), looks := false }, kinds := [], alts := [], laidByText := true, laidKinds := [.data], laidTests := true, laidLooks := .later }
def CodeDecodesUptoCardSaid : Prop := Claim7.holds Tryd.pinned (.plain (OpenSpec.upto codeDecodesSpec)) codeDecodesUptoCard

/-- THE SECOND FORM's CARD OF 'ladderbacklaw13.CodeBack'. -/
def codeBackUptoCard : Claim7 := { stood := { row := codeBackUptoRow, standIns := [], harness := (true, "1233046b7dbed4381bbd78a88dde7b293a02a34471a45f2d6f6abb3311c82b1c"), looks := false }, kinds := [], alts := [], laidByText := true, laidKinds := [.data], laidTests := true, laidLooks := .later }
def CodeBackUptoCardSaid : Prop := Claim7.holds Tryd.pinned (.plain (OpenSpec.upto codeBackSpec)) codeBackUptoCard

/-- THE SECOND FORM's CARD OF 'ladderbacklaw13.CodeEncodes'. -/
def codeEncodesUptoCard : Claim7 := { stood := { row := codeEncodesUptoRow, standIns := [], harness := (true, "1233046b7dbed4381bbd78a88dde7b293a02a34471a45f2d6f6abb3311c82b1c"), looks := false }, kinds := [], alts := [], laidByText := true, laidKinds := [.data], laidTests := true, laidLooks := .later }
def CodeEncodesUptoCardSaid : Prop := Claim7.holds Tryd.pinned (.plain (OpenSpec.upto codeEncodesSpec)) codeEncodesUptoCard

/-- THE SECOND FORM's CARD OF 'ladderbacklaw15.UnitPuts'. -/
def unitPutsUptoCard : Claim7 := { stood := { row := unitPutsUptoRow, standIns := [], harness := (true, "1233046b7dbed4381bbd78a88dde7b293a02a34471a45f2d6f6abb3311c82b1c"), looks := false }, kinds := [], alts := [], laidByText := true, laidKinds := [.data], laidTests := true, laidLooks := .later }
def UnitPutsUptoCardSaid : Prop := Claim7.holds Tryd.pinned (.plain (OpenSpec.upto unitPutsSpec)) unitPutsUptoCard

/-- THE SECOND FORM's CARD OF 'ladderbacklaw15.UnitGets'. -/
def unitGetsUptoCard : Claim7 := { stood := { row := unitGetsUptoRow, standIns := [], harness := (true, "1233046b7dbed4381bbd78a88dde7b293a02a34471a45f2d6f6abb3311c82b1c"), looks := false }, kinds := [], alts := [], laidByText := true, laidKinds := [.data], laidTests := true, laidLooks := .later }
def UnitGetsUptoCardSaid : Prop := Claim7.holds Tryd.pinned (.plain (OpenSpec.upto unitGetsSpec)) unitGetsUptoCard

/-- THE SECOND FORM's CARD OF 'ladderbacklaw15.UnitBack'. -/
def unitBackUptoCard : Claim7 := { stood := { row := unitBackUptoRow, standIns := [], harness := (true, "1233046b7dbed4381bbd78a88dde7b293a02a34471a45f2d6f6abb3311c82b1c"), looks := false }, kinds := [], alts := [], laidByText := true, laidKinds := [.data], laidTests := true, laidLooks := .later }
def UnitBackUptoCardSaid : Prop := Claim7.holds Tryd.pinned (.plain (OpenSpec.upto unitBackSpec)) unitBackUptoCard
end Rows
end Go.Proofs.YthbcliofjfhmbaaDoor

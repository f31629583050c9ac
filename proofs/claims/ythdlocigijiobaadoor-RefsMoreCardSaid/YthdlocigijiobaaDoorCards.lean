/-
  DERIVED. GIVEN WITH THE SEED: THE CARDS: each row of YthdlocigijiobaaDoorRows.lean that lists a variable, with what it lists TIED to the program's text (the seventh form; the later family's looks); each row that meets fmt, with fmt's text TOLD by the authors' own Lean function (tested against real Go, not proved from fmt's source: count such statements apart). THE CARD IS WHAT COUNTS. Prove the row's statement (the work); the ties are given (YthdlocigijiobaaDoorTie.lean); close each card by the builder's one call (the guide's Derived/Test/ToyasCard.lean, 'card_holds'). Laid BY PROGRAM, IN A SANDBOX (cutbox-door.mjs). By AI agents, Wed Nov 11 2026. No macro, syntax, notation, axiom, sorry.
-/
import Derived.Test.YthdlocigijiobaaDoorRows
import GoSem.ClaimSeven
namespace Go.Proofs.YthdlocigijiobaaDoor
namespace Rows

/-- THE TIED CARD OF 'ladderbacklaw18.RefsMore'. -/
def refsMoreCard : Claim7 := { stood := { row := refsMoreRow, standIns := [], harness := (true, "9cd706d2658cd2c572b744f1fd3c9aa6427459e4b9ece9f28c5755f775bd4e11"), looks := false }, kinds := [], alts := [], laidByText := true, laidKinds := [.data, .data, .data], laidTests := true, laidLooks := .later }
def RefsMoreCardSaid : Prop := Claim7.holds Tryd.pinned (.plain (OpenSpec.ofChange refsMoreSpec)) refsMoreCard

/-- THE TIED CARD OF 'ladderbacklaw19.StackSteps'. -/
def stackStepsCard : Claim7 := { stood := { row := stackStepsRow, standIns := [], harness := (true, "9cd706d2658cd2c572b744f1fd3c9aa6427459e4b9ece9f28c5755f775bd4e11"), looks := false }, kinds := [], alts := [], laidByText := true, laidKinds := [.data, .data, .data], laidTests := true, laidLooks := .later }
def StackStepsCardSaid : Prop := Claim7.holds Tryd.pinned (.plain (OpenSpec.ofChange stackStepsSpec)) stackStepsCard

/-- THE TIED CARD OF 'ladderbacklaw19.StackTakes'. -/
def stackTakesCard : Claim7 := { stood := { row := stackTakesRow, standIns := [], harness := (true, "9cd706d2658cd2c572b744f1fd3c9aa6427459e4b9ece9f28c5755f775bd4e11"), looks := false }, kinds := [], alts := [], laidByText := true, laidKinds := [.data, .data, .data], laidTests := true, laidLooks := .later }
def StackTakesCardSaid : Prop := Claim7.holds Tryd.pinned (.plain (OpenSpec.ofChange stackTakesSpec)) stackTakesCard

/-- THE SECOND FORM's CARD OF 'ladderbacklaw18.RefsMore'. -/
def refsMoreUptoCard : Claim7 := { stood := { row := refsMoreUptoRow, standIns := [], harness := (true, "9cd706d2658cd2c572b744f1fd3c9aa6427459e4b9ece9f28c5755f775bd4e11"), looks := false }, kinds := [], alts := [], laidByText := true, laidKinds := [.data, .data, .data], laidTests := true, laidLooks := .later }
def RefsMoreUptoCardSaid : Prop := Claim7.holds Tryd.pinned (.plain (OpenSpec.upto refsMoreSpec)) refsMoreUptoCard

/-- THE SECOND FORM's CARD OF 'ladderbacklaw19.StackSteps'. -/
def stackStepsUptoCard : Claim7 := { stood := { row := stackStepsUptoRow, standIns := [], harness := (true, "9cd706d2658cd2c572b744f1fd3c9aa6427459e4b9ece9f28c5755f775bd4e11"), looks := false }, kinds := [], alts := [], laidByText := true, laidKinds := [.data, .data, .data], laidTests := true, laidLooks := .later }
def StackStepsUptoCardSaid : Prop := Claim7.holds Tryd.pinned (.plain (OpenSpec.upto stackStepsSpec)) stackStepsUptoCard

/-- THE SECOND FORM's CARD OF 'ladderbacklaw19.StackTakes'. -/
def stackTakesUptoCard : Claim7 := { stood := { row := stackTakesUptoRow, standIns := [], harness := (true, "9cd706d2658cd2c572b744f1fd3c9aa6427459e4b9ece9f28c5755f775bd4e11"), looks := false }, kinds := [], alts := [], laidByText := true, laidKinds := [.data, .data, .data], laidTests := true, laidLooks := .later }
def StackTakesUptoCardSaid : Prop := Claim7.holds Tryd.pinned (.plain (OpenSpec.upto stackTakesSpec)) stackTakesUptoCard
end Rows
end Go.Proofs.YthdlocigijiobaaDoor

/-
  DERIVED. GIVEN WITH THE SEED: THE CARDS: each row of YtohdabkhafcdkaaDoorRows.lean that lists a variable, with what it lists TIED to the program's text (the seventh form; the later family's looks); each row that meets fmt, with fmt's text TOLD by the authors' own Lean function (tested against real Go, not proved from fmt's source: count such statements apart). THE CARD IS WHAT COUNTS. Prove the row's statement (the work); the ties are given (YtohdabkhafcdkaaDoorTie.lean); close each card by the builder's one call (the guide's Derived/Test/ToyasCard.lean, 'card_holds'). Laid BY PROGRAM, IN A SANDBOX (cutbox-door.mjs). By AI agents, Wed Nov 11 2026. No macro, syntax, notation, axiom, sorry.
-/
import Derived.Test.YtohdabkhafcdkaaDoorRows
import GoSem.ClaimSeven
namespace Go.Proofs.YtohdabkhafcdkaaDoor
namespace Rows

/-- THE TIED CARD OF 'ladderbacklaw01.KindWraps'. -/
def kindWrapsCard : Claim7 := { stood := { row := kindWrapsRow, standIns := [], harness := (true, "97b18919c8d8637c9ab8b7b9a3f733ad6233479bc67518a6635cc7e957c4c11e"), looks := false }, kinds := [], alts := [], laidByText := true, laidKinds := [.data], laidTests := true, laidLooks := .later }
def KindWrapsCardSaid : Prop := Claim7.holds Tryd.pinned (.plain (OpenSpec.ofChange kindWrapsSpec)) kindWrapsCard

/-- THE TIED CARD OF 'ladderbacklaw01.KindStays'. -/
def kindStaysCard : Claim7 := { stood := { row := kindStaysRow, standIns := [], harness := (true, "97b18919c8d8637c9ab8b7b9a3f733ad6233479bc67518a6635cc7e957c4c11e"), looks := false }, kinds := [], alts := [], laidByText := true, laidKinds := [.data], laidTests := true, laidLooks := .later }
def KindStaysCardSaid : Prop := Claim7.holds Tryd.pinned (.plain (OpenSpec.ofChange kindStaysSpec)) kindStaysCard

/-- THE TIED CARD OF 'ladderbacklaw01.KindTells'. -/
def kindTellsCard : Claim7 := { stood := { row := kindTellsRow, standIns := [], harness := (true, "97b18919c8d8637c9ab8b7b9a3f733ad6233479bc67518a6635cc7e957c4c11e"), looks := false }, kinds := [], alts := [], laidByText := true, laidKinds := [.data], laidTests := true, laidLooks := .later }
def KindTellsCardSaid : Prop := Claim7.holds Tryd.pinned (.plain (OpenSpec.ofChange kindTellsSpec)) kindTellsCard

/-- THE TIED CARD OF 'ladderbacklaw07.AluBins'. -/
def aluBinsCard : Claim7 := { stood := { row := aluBinsRow, standIns := [], harness := (true, "97b18919c8d8637c9ab8b7b9a3f733ad6233479bc67518a6635cc7e957c4c11e"), looks := false }, kinds := [], alts := [], laidByText := true, laidKinds := [.data, .data], laidTests := true, laidLooks := .later }
def AluBinsCardSaid : Prop := Claim7.holds Tryd.pinned (.plain (OpenSpec.ofChange aluBinsSpec)) aluBinsCard

/-- THE TIED CARD OF 'ladderbacklaw07.AluLaws'. -/
def aluLawsCard : Claim7 := { stood := { row := aluLawsRow, standIns := [], harness := (true, "97b18919c8d8637c9ab8b7b9a3f733ad6233479bc67518a6635cc7e957c4c11e"), looks := false }, kinds := [], alts := [], laidByText := true, laidKinds := [.data, .data], laidTests := true, laidLooks := .later }
def AluLawsCardSaid : Prop := Claim7.holds Tryd.pinned (.plain (OpenSpec.ofChange aluLawsSpec)) aluLawsCard

/-- THE TIED CARD OF 'ladderbacklaw07.AluUns'. -/
def aluUnsCard : Claim7 := { stood := { row := aluUnsRow, standIns := [], harness := (true, "97b18919c8d8637c9ab8b7b9a3f733ad6233479bc67518a6635cc7e957c4c11e"), looks := false }, kinds := [], alts := [], laidByText := true, laidKinds := [.data, .data], laidTests := true, laidLooks := .later }
def AluUnsCardSaid : Prop := Claim7.holds Tryd.pinned (.plain (OpenSpec.ofChange aluUnsSpec)) aluUnsCard

/-- THE SECOND FORM's CARD OF 'ladderbacklaw01.KindWraps'. -/
def kindWrapsUptoCard : Claim7 := { stood := { row := kindWrapsUptoRow, standIns := [], harness := (true, "97b18919c8d8637c9ab8b7b9a3f733ad6233479bc67518a6635cc7e957c4c11e"), looks := false }, kinds := [], alts := [], laidByText := true, laidKinds := [.data], laidTests := true, laidLooks := .later }
def KindWrapsUptoCardSaid : Prop := Claim7.holds Tryd.pinned (.plain (OpenSpec.upto kindWrapsSpec)) kindWrapsUptoCard

/-- THE SECOND FORM's CARD OF 'ladderbacklaw01.KindStays'. -/
def kindStaysUptoCard : Claim7 := { stood := { row := kindStaysUptoRow, standIns := [], harness := (true, "97b18919c8d8637c9ab8b7b9a3f733ad6233479bc67518a6635cc7e957c4c11e"), looks := false }, kinds := [], alts := [], laidByText := true, laidKinds := [.data], laidTests := true, laidLooks := .later }
def KindStaysUptoCardSaid : Prop := Claim7.holds Tryd.pinned (.plain (OpenSpec.upto kindStaysSpec)) kindStaysUptoCard

/-- THE SECOND FORM's CARD OF 'ladderbacklaw01.KindTells'. -/
def kindTellsUptoCard : Claim7 := { stood := { row := kindTellsUptoRow, standIns := [], harness := (true, "97b18919c8d8637c9ab8b7b9a3f733ad6233479bc67518a6635cc7e957c4c11e"), looks := false }, kinds := [], alts := [], laidByText := true, laidKinds := [.data], laidTests := true, laidLooks := .later }
def KindTellsUptoCardSaid : Prop := Claim7.holds Tryd.pinned (.plain (OpenSpec.upto kindTellsSpec)) kindTellsUptoCard

/-- THE SECOND FORM's CARD OF 'ladderbacklaw07.AluBins'. -/
def aluBinsUptoCard : Claim7 := { stood := { row := aluBinsUptoRow, standIns := [], harness := (true, "97b18919c8d8637c9ab8b7b9a3f733ad6233479bc67518a6635cc7e957c4c11e"), looks := false }, kinds := [], alts := [], laidByText := true, laidKinds := [.data, .data], laidTests := true, laidLooks := .later }
def AluBinsUptoCardSaid : Prop := Claim7.holds Tryd.pinned (.plain (OpenSpec.upto aluBinsSpec)) aluBinsUptoCard

/-- THE SECOND FORM's CARD OF 'ladderbacklaw07.AluLaws'. -/
def aluLawsUptoCard : Claim7 := { stood := { row := aluLawsUptoRow, standIns := [], harness := (true, "97b18919c8d8637c9ab8b7b9a3f733ad6233479bc67518a6635cc7e957c4c11e"), looks := false }, kinds := [], alts := [], laidByText := true, laidKinds := [.data, .data], laidTests := true, laidLooks := .later }
def AluLawsUptoCardSaid : Prop := Claim7.holds Tryd.pinned (.plain (OpenSpec.upto aluLawsSpec)) aluLawsUptoCard

/-- THE SECOND FORM's CARD OF 'ladderbacklaw07.AluUns'. -/
def aluUnsUptoCard : Claim7 := { stood := { row := aluUnsUptoRow, standIns := [], harness := (true, "97b18919c8d8637c9ab8b7b9a3f733ad6233479bc67518a6635cc7e957c4c11e"), looks := false }, kinds := [], alts := [], laidByText := true, laidKinds := [.data, .data], laidTests := true, laidLooks := .later }
def AluUnsUptoCardSaid : Prop := Claim7.holds Tryd.pinned (.plain (OpenSpec.upto aluUnsSpec)) aluUnsUptoCard
end Rows
end Go.Proofs.YtohdabkhafcdkaaDoor

/-
  DERIVED. GIVEN WITH THE SEED: THE CARDS: each row of YtkkikddocgckbaaDoorRows.lean that lists a variable, with what it lists TIED to the program's text (the seventh form; the later family's looks); each row that meets fmt, with fmt's text TOLD by the authors' own Lean function (tested against real Go, not proved from fmt's source: count such statements apart). THE CARD IS WHAT COUNTS. Prove the row's statement (the work); the ties are given (YtkkikddocgckbaaDoorTie.lean); close each card by the builder's one call (the guide's Derived/Test/ToyasCard.lean, 'card_holds'). Laid BY PROGRAM, IN A SANDBOX (cutbox-door.mjs). By AI agents, Wed Nov 11 2026. No macro, syntax, notation, axiom, sorry.
-/
import Derived.Test.YtkkikddocgckbaaDoorRows
import GoSem.ClaimSeven
namespace Go.Proofs.YtkkikddocgckbaaDoor
namespace Rows

/-- THE TIED CARD OF 'ladderbacklaw06.BitsHold'. -/
def bitsHoldCard : Claim7 := { stood := { row := bitsHoldRow, standIns := [], harness := (true, "05a103099a82feb35332448f5821000db43058d4291dcbe28f930970e2393848"), looks := false }, kinds := [], alts := [], laidByText := true, laidKinds := [.data], laidTests := true, laidLooks := .later }
def BitsHoldCardSaid : Prop := Claim7.holds Tryd.pinned (.plain (OpenSpec.ofChange bitsHoldSpec)) bitsHoldCard

/-- THE TIED CARD OF 'ladderbacklaw06.BitsJoin'. -/
def bitsJoinCard : Claim7 := { stood := { row := bitsJoinRow, standIns := [], harness := (true, "05a103099a82feb35332448f5821000db43058d4291dcbe28f930970e2393848"), looks := false }, kinds := [], alts := [], laidByText := true, laidKinds := [.data], laidTests := true, laidLooks := .later }
def BitsJoinCardSaid : Prop := Claim7.holds Tryd.pinned (.plain (OpenSpec.ofChange bitsJoinSpec)) bitsJoinCard

/-- THE SECOND FORM's CARD OF 'ladderbacklaw06.BitsHold'. -/
def bitsHoldUptoCard : Claim7 := { stood := { row := bitsHoldUptoRow, standIns := [], harness := (true, "05a103099a82feb35332448f5821000db43058d4291dcbe28f930970e2393848"), looks := false }, kinds := [], alts := [], laidByText := true, laidKinds := [.data], laidTests := true, laidLooks := .later }
def BitsHoldUptoCardSaid : Prop := Claim7.holds Tryd.pinned (.plain (OpenSpec.upto bitsHoldSpec)) bitsHoldUptoCard

/-- THE SECOND FORM's CARD OF 'ladderbacklaw06.BitsJoin'. -/
def bitsJoinUptoCard : Claim7 := { stood := { row := bitsJoinUptoRow, standIns := [], harness := (true, "05a103099a82feb35332448f5821000db43058d4291dcbe28f930970e2393848"), looks := false }, kinds := [], alts := [], laidByText := true, laidKinds := [.data], laidTests := true, laidLooks := .later }
def BitsJoinUptoCardSaid : Prop := Claim7.holds Tryd.pinned (.plain (OpenSpec.upto bitsJoinSpec)) bitsJoinUptoCard
end Rows
end Go.Proofs.YtkkikddocgckbaaDoor

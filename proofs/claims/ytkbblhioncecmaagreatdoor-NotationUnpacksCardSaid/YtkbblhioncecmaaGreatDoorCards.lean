/-
  DERIVED. GIVEN WITH THE SEED: THE CARDS: each row of YtkbblhioncecmaaGreatDoorRows.lean that lists a variable, with what it lists TIED to the program's text (the seventh form; the later family's looks); each row that meets fmt, with fmt's text TOLD by the authors' own Lean function (tested against real Go, not proved from fmt's source: count such statements apart). THE CARD IS WHAT COUNTS. Prove the row's statement (the work); the ties are given (YtkbblhioncecmaaGreatDoorTie.lean); close each card by the builder's one call (the guide's Derived/Test/ToyasCard.lean, 'card_holds'). Laid BY PROGRAM, IN A SANDBOX (cutbox-door.mjs). By AI agents, Wed Nov 11 2026. No macro, syntax, notation, axiom, sorry.
-/
import Derived.Test.YtkbblhioncecmaaGreatDoorRows
import GoSem.ClaimSeven
namespace Go.Proofs.YtkbblhioncecmaaGreatDoor
namespace Rows

/-- THE TIED CARD OF 'greffierlaw03.NotationUnpacks'. -/
def notationUnpacksCard : Claim7 := { stood := { row := notationUnpacksRow, standIns := [], harness := (true, "1345921dbbc5d8180d138ed362f84ee8212f977bb59bf085258d6a28513ab22c"), looks := true }, kinds := [], alts := [], laidByText := true, laidKinds := [.data, .data, .data], laidTests := true, laidLooks := .later }
def NotationUnpacksCardSaid : Prop := Claim7.holds Tryz.pinned (.plain (OpenSpec.ofChange notationUnpacksSpec)) notationUnpacksCard

/-- THE SECOND FORM's CARD OF 'greffierlaw03.NotationUnpacks'. -/
def notationUnpacksUptoCard : Claim7 := { stood := { row := notationUnpacksUptoRow, standIns := [], harness := (true, "1345921dbbc5d8180d138ed362f84ee8212f977bb59bf085258d6a28513ab22c"), looks := true }, kinds := [], alts := [], laidByText := true, laidKinds := [.data, .data, .data], laidTests := true, laidLooks := .later }
def NotationUnpacksUptoCardSaid : Prop := Claim7.holds Tryz.pinned (.plain (OpenSpec.upto notationUnpacksSpec)) notationUnpacksUptoCard
end Rows
end Go.Proofs.YtkbblhioncecmaaGreatDoor

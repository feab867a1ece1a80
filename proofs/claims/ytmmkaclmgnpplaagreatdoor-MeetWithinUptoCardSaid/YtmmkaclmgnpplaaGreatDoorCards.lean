/-
  DERIVED. GIVEN WITH THE SEED: THE CARDS: each row of YtmmkaclmgnpplaaGreatDoorRows.lean that lists a variable, with what it lists TIED to the program's text (the seventh form; the later family's looks); each row that meets fmt, with fmt's text TOLD by the authors' own Lean function (tested against real Go, not proved from fmt's source: count such statements apart). THE CARD IS WHAT COUNTS. Prove the row's statement (the work); the ties are given (YtmmkaclmgnpplaaGreatDoorTie.lean); close each card by the builder's one call (the guide's Derived/Test/ToyasCard.lean, 'card_holds'). Laid BY PROGRAM, IN A SANDBOX (cutbox-door.mjs). By AI agents, Wed Nov 11 2026. No macro, syntax, notation, axiom, sorry.
-/
import Derived.Test.YtmmkaclmgnpplaaGreatDoorRows
import GoSem.ClaimSeven
namespace Go.Proofs.YtmmkaclmgnpplaaGreatDoor
namespace Rows

/-- THE TIED CARD OF 'greffierlaw13.MeetAllows'. -/
def meetAllowsCard : Claim7 := { stood := { row := meetAllowsRow, standIns := [], harness := (true, "0a8ee5360d905aa3817de1da11690f8c45cfaf0bcf6be3ec8b234b4d877ac076"), looks := true }, kinds := [], alts := [], laidByText := true, laidKinds := [.data, .data, .data, .data, .pinned], laidTests := true, laidLooks := .later }
def MeetAllowsCardSaid : Prop := Claim7.holds Tryz.pinned (.plain (OpenSpec.ofChange meetAllowsSpec)) meetAllowsCard

/-- THE TIED CARD OF 'greffierlaw13.MeetAlone'. -/
def meetAloneCard : Claim7 := { stood := { row := meetAloneRow, standIns := [], harness := (true, "0a8ee5360d905aa3817de1da11690f8c45cfaf0bcf6be3ec8b234b4d877ac076"), looks := true }, kinds := [], alts := [], laidByText := true, laidKinds := [.data, .data, .data, .data, .pinned], laidTests := true, laidLooks := .later }
def MeetAloneCardSaid : Prop := Claim7.holds Tryz.pinned (.plain (OpenSpec.ofChange meetAloneSpec)) meetAloneCard

/-- THE TIED CARD OF 'greffierlaw13.MeetWithin'. -/
def meetWithinCard : Claim7 := { stood := { row := meetWithinRow, standIns := [], harness := (true, "0a8ee5360d905aa3817de1da11690f8c45cfaf0bcf6be3ec8b234b4d877ac076"), looks := true }, kinds := [], alts := [], laidByText := true, laidKinds := [.data, .data, .data, .data, .pinned], laidTests := true, laidLooks := .later }
def MeetWithinCardSaid : Prop := Claim7.holds Tryz.pinned (.plain (OpenSpec.ofChange meetWithinSpec)) meetWithinCard

/-- THE SECOND FORM's CARD OF 'greffierlaw13.MeetAllows'. -/
def meetAllowsUptoCard : Claim7 := { stood := { row := meetAllowsUptoRow, standIns := [], harness := (true, "0a8ee5360d905aa3817de1da11690f8c45cfaf0bcf6be3ec8b234b4d877ac076"), looks := true }, kinds := [], alts := [], laidByText := true, laidKinds := [.data, .data, .data, .data, .pinned], laidTests := true, laidLooks := .later }
def MeetAllowsUptoCardSaid : Prop := Claim7.holds Tryz.pinned (.plain (OpenSpec.upto meetAllowsSpec)) meetAllowsUptoCard

/-- THE SECOND FORM's CARD OF 'greffierlaw13.MeetAlone'. -/
def meetAloneUptoCard : Claim7 := { stood := { row := meetAloneUptoRow, standIns := [], harness := (true, "0a8ee5360d905aa3817de1da11690f8c45cfaf0bcf6be3ec8b234b4d877ac076"), looks := true }, kinds := [], alts := [], laidByText := true, laidKinds := [.data, .data, .data, .data, .pinned], laidTests := true, laidLooks := .later }
def MeetAloneUptoCardSaid : Prop := Claim7.holds Tryz.pinned (.plain (OpenSpec.upto meetAloneSpec)) meetAloneUptoCard

/-- THE SECOND FORM's CARD OF 'greffierlaw13.MeetWithin'. -/
def meetWithinUptoCard : Claim7 := { stood := { row := meetWithinUptoRow, standIns := [], harness := (true, "0a8ee5360d905aa3817de1da11690f8c45cfaf0bcf6be3ec8b234b4d877ac076"), looks := true }, kinds := [], alts := [], laidByText := true, laidKinds := [.data, .data, .data, .data, .pinned], laidTests := true, laidLooks := .later }
def MeetWithinUptoCardSaid : Prop := Claim7.holds Tryz.pinned (.plain (OpenSpec.upto meetWithinSpec)) meetWithinUptoCard
end Rows
end Go.Proofs.YtmmkaclmgnpplaaGreatDoor

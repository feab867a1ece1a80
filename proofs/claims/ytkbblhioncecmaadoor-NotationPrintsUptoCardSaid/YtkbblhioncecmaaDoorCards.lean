/-
  DERIVED. GIVEN WITH THE SEED: THE CARDS: each row of YtkbblhioncecmaaDoorRows.lean that lists a variable, with what it lists TIED to the program's text (the seventh form; the later family's looks); each row that meets fmt, with fmt's text TOLD by the authors' own Lean function (tested against real Go, not proved from fmt's source: count such statements apart). THE CARD IS WHAT COUNTS. Prove the row's statement (the work); the ties are given (YtkbblhioncecmaaDoorTie.lean); close each card by the builder's one call (the guide's Derived/Test/ToyasCard.lean, 'card_holds'). Laid BY PROGRAM, IN A SANDBOX (cutbox-door.mjs). By AI agents, Wed Nov 11 2026. No macro, syntax, notation, axiom, sorry.
-/
import Derived.Test.YtkbblhioncecmaaDoorRows
import GoSem.ClaimSeven
namespace Go.Proofs.YtkbblhioncecmaaDoor
namespace Rows

/-- THE TIED CARD OF 'greffierlaw03.NotationReads'. -/
def notationReadsCard : Claim7 := { stood := { row := notationReadsRow, standIns := [], harness := (true, "403b7ac541e790f59fefbdd262e23cf8e1b58397a7521905c4f38578e262aaad"), looks := true }, kinds := [], alts := [], laidByText := true, laidKinds := [.data, .data, .data], laidTests := true, laidLooks := .later }
def NotationReadsCardSaid : Prop := Claim7.holds Tryd.pinned (.plain (OpenSpec.ofChange notationReadsSpec)) notationReadsCard

/-- THE TIED CARD OF 'greffierlaw03.NotationBoth'. -/
def notationBothCard : Claim7 := { stood := { row := notationBothRow, standIns := [], harness := (true, "403b7ac541e790f59fefbdd262e23cf8e1b58397a7521905c4f38578e262aaad"), looks := true }, kinds := [], alts := [], laidByText := true, laidKinds := [.data, .data, .data], laidTests := true, laidLooks := .later }
def NotationBothCardSaid : Prop := Claim7.holds Tryd.pinned (.plain (OpenSpec.ofChange notationBothSpec)) notationBothCard

/-- THE TIED CARD OF 'greffierlaw03.NotationAgrees'. -/
def notationAgreesCard : Claim7 := { stood := { row := notationAgreesRow, standIns := [], harness := (true, "403b7ac541e790f59fefbdd262e23cf8e1b58397a7521905c4f38578e262aaad"), looks := true }, kinds := [], alts := [], laidByText := true, laidKinds := [.data, .data, .data], laidTests := true, laidLooks := .later }
def NotationAgreesCardSaid : Prop := Claim7.holds Tryd.pinned (.plain (OpenSpec.ofChange notationAgreesSpec)) notationAgreesCard

/-- THE TIED CARD OF 'greffierlaw03.NotationPrints'. -/
def notationPrintsCard : Claim7 := { stood := { row := notationPrintsRow, standIns := [], harness := (true, "403b7ac541e790f59fefbdd262e23cf8e1b58397a7521905c4f38578e262aaad"), looks := true }, kinds := [], alts := [], laidByText := true, laidKinds := [.data, .data, .data], laidTests := true, laidLooks := .later }
def NotationPrintsCardSaid : Prop := Claim7.holds Tryd.pinned (.plain (OpenSpec.ofChange notationPrintsSpec)) notationPrintsCard

/-- THE TIED CARD OF 'greffierlaw03.NotationBlanks'. -/
def notationBlanksCard : Claim7 := { stood := { row := notationBlanksRow, standIns := [], harness := (true, "403b7ac541e790f59fefbdd262e23cf8e1b58397a7521905c4f38578e262aaad"), looks := true }, kinds := [], alts := [], laidByText := true, laidKinds := [.data, .data, .data], laidTests := true, laidLooks := .later }
def NotationBlanksCardSaid : Prop := Claim7.holds Tryd.pinned (.plain (OpenSpec.ofChange notationBlanksSpec)) notationBlanksCard

/-- THE SECOND FORM's CARD OF 'greffierlaw03.NotationReads'. -/
def notationReadsUptoCard : Claim7 := { stood := { row := notationReadsUptoRow, standIns := [], harness := (true, "403b7ac541e790f59fefbdd262e23cf8e1b58397a7521905c4f38578e262aaad"), looks := true }, kinds := [], alts := [], laidByText := true, laidKinds := [.data, .data, .data], laidTests := true, laidLooks := .later }
def NotationReadsUptoCardSaid : Prop := Claim7.holds Tryd.pinned (.plain (OpenSpec.upto notationReadsSpec)) notationReadsUptoCard

/-- THE SECOND FORM's CARD OF 'greffierlaw03.NotationBoth'. -/
def notationBothUptoCard : Claim7 := { stood := { row := notationBothUptoRow, standIns := [], harness := (true, "403b7ac541e790f59fefbdd262e23cf8e1b58397a7521905c4f38578e262aaad"), looks := true }, kinds := [], alts := [], laidByText := true, laidKinds := [.data, .data, .data], laidTests := true, laidLooks := .later }
def NotationBothUptoCardSaid : Prop := Claim7.holds Tryd.pinned (.plain (OpenSpec.upto notationBothSpec)) notationBothUptoCard

/-- THE SECOND FORM's CARD OF 'greffierlaw03.NotationAgrees'. -/
def notationAgreesUptoCard : Claim7 := { stood := { row := notationAgreesUptoRow, standIns := [], harness := (true, "403b7ac541e790f59fefbdd262e23cf8e1b58397a7521905c4f38578e262aaad"), looks := true }, kinds := [], alts := [], laidByText := true, laidKinds := [.data, .data, .data], laidTests := true, laidLooks := .later }
def NotationAgreesUptoCardSaid : Prop := Claim7.holds Tryd.pinned (.plain (OpenSpec.upto notationAgreesSpec)) notationAgreesUptoCard

/-- THE SECOND FORM's CARD OF 'greffierlaw03.NotationPrints'. -/
def notationPrintsUptoCard : Claim7 := { stood := { row := notationPrintsUptoRow, standIns := [], harness := (true, "403b7ac541e790f59fefbdd262e23cf8e1b58397a7521905c4f38578e262aaad"), looks := true }, kinds := [], alts := [], laidByText := true, laidKinds := [.data, .data, .data], laidTests := true, laidLooks := .later }
def NotationPrintsUptoCardSaid : Prop := Claim7.holds Tryd.pinned (.plain (OpenSpec.upto notationPrintsSpec)) notationPrintsUptoCard

/-- THE SECOND FORM's CARD OF 'greffierlaw03.NotationBlanks'. -/
def notationBlanksUptoCard : Claim7 := { stood := { row := notationBlanksUptoRow, standIns := [], harness := (true, "403b7ac541e790f59fefbdd262e23cf8e1b58397a7521905c4f38578e262aaad"), looks := true }, kinds := [], alts := [], laidByText := true, laidKinds := [.data, .data, .data], laidTests := true, laidLooks := .later }
def NotationBlanksUptoCardSaid : Prop := Claim7.holds Tryd.pinned (.plain (OpenSpec.upto notationBlanksSpec)) notationBlanksUptoCard
end Rows
end Go.Proofs.YtkbblhioncecmaaDoor

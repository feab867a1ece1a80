/-
  DERIVED. GIVEN WITH THE SEED: THE CARDS: each row of YticjhogofoffmaaDoorRows.lean that lists a variable, with what it lists TIED to the program's text (the seventh form; the later family's looks); each row that meets fmt, with fmt's text TOLD by the authors' own Lean function (tested against real Go, not proved from fmt's source: count such statements apart). THE CARD IS WHAT COUNTS. Prove the row's statement (the work); the ties are given (YticjhogofoffmaaDoorTie.lean); close each card by the builder's one call (the guide's Derived/Test/ToyasCard.lean, 'card_holds'). Laid BY PROGRAM, IN A SANDBOX (cutbox-door.mjs). By AI agents, Wed Nov 11 2026. No macro, syntax, notation, axiom, sorry.
-/
import Derived.Test.YticjhogofoffmaaDoorRows
import GoSem.ClaimSeven
namespace Go.Proofs.YticjhogofoffmaaDoor
namespace Rows

/-- THE TIED CARD OF 'greffierlaw19.CrlCancels'. -/
def crlCancelsCard : Claim7 := { stood := { row := crlCancelsRow, standIns := [], harness := (true, "db2c5f12cf428821bc244bfe28558ba8887b7d8a87e082c4718f3df30f2897d7"), looks := false }, kinds := [], alts := [], laidByText := true, laidKinds := [.data, .data, .data], laidTests := true, laidLooks := .later }
def CrlCancelsCardSaid : Prop := Claim7.holds Tryd.pinned (.plain (OpenSpec.ofChange crlCancelsSpec)) crlCancelsCard

/-- THE TIED CARD OF 'greffierlaw19.CrlTurns'. -/
def crlTurnsCard : Claim7 := { stood := { row := crlTurnsRow, standIns := [], harness := (true, "db2c5f12cf428821bc244bfe28558ba8887b7d8a87e082c4718f3df30f2897d7"), looks := false }, kinds := [], alts := [], laidByText := true, laidKinds := [.data, .data, .data], laidTests := true, laidLooks := .later }
def CrlTurnsCardSaid : Prop := Claim7.holds Tryd.pinned (.plain (OpenSpec.ofChange crlTurnsSpec)) crlTurnsCard

/-- THE TIED CARD OF 'greffierlaw19.CrlReads'. -/
def crlReadsCard : Claim7 := { stood := { row := crlReadsRow, standIns := [], harness := (true, "db2c5f12cf428821bc244bfe28558ba8887b7d8a87e082c4718f3df30f2897d7"), looks := false }, kinds := [], alts := [], laidByText := true, laidKinds := [.data, .data, .data], laidTests := true, laidLooks := .later }
def CrlReadsCardSaid : Prop := Claim7.holds Tryd.pinned (.plain (OpenSpec.ofChange crlReadsSpec)) crlReadsCard

/-- THE TIED CARD OF 'greffierlaw19.CrlWrites'. -/
def crlWritesCard : Claim7 := { stood := { row := crlWritesRow, standIns := [], harness := (true, "db2c5f12cf428821bc244bfe28558ba8887b7d8a87e082c4718f3df30f2897d7"), looks := false }, kinds := [], alts := [], laidByText := true, laidKinds := [.data, .data, .data], laidTests := true, laidLooks := .later }
def CrlWritesCardSaid : Prop := Claim7.holds Tryd.pinned (.plain (OpenSpec.ofChange crlWritesSpec)) crlWritesCard

/-- THE SECOND FORM's CARD OF 'greffierlaw19.CrlCancels'. -/
def crlCancelsUptoCard : Claim7 := { stood := { row := crlCancelsUptoRow, standIns := [], harness := (true, "db2c5f12cf428821bc244bfe28558ba8887b7d8a87e082c4718f3df30f2897d7"), looks := false }, kinds := [], alts := [], laidByText := true, laidKinds := [.data, .data, .data], laidTests := true, laidLooks := .later }
def CrlCancelsUptoCardSaid : Prop := Claim7.holds Tryd.pinned (.plain (OpenSpec.upto crlCancelsSpec)) crlCancelsUptoCard

/-- THE SECOND FORM's CARD OF 'greffierlaw19.CrlTurns'. -/
def crlTurnsUptoCard : Claim7 := { stood := { row := crlTurnsUptoRow, standIns := [], harness := (true, "db2c5f12cf428821bc244bfe28558ba8887b7d8a87e082c4718f3df30f2897d7"), looks := false }, kinds := [], alts := [], laidByText := true, laidKinds := [.data, .data, .data], laidTests := true, laidLooks := .later }
def CrlTurnsUptoCardSaid : Prop := Claim7.holds Tryd.pinned (.plain (OpenSpec.upto crlTurnsSpec)) crlTurnsUptoCard

/-- THE SECOND FORM's CARD OF 'greffierlaw19.CrlReads'. -/
def crlReadsUptoCard : Claim7 := { stood := { row := crlReadsUptoRow, standIns := [], harness := (true, "db2c5f12cf428821bc244bfe28558ba8887b7d8a87e082c4718f3df30f2897d7"), looks := false }, kinds := [], alts := [], laidByText := true, laidKinds := [.data, .data, .data], laidTests := true, laidLooks := .later }
def CrlReadsUptoCardSaid : Prop := Claim7.holds Tryd.pinned (.plain (OpenSpec.upto crlReadsSpec)) crlReadsUptoCard

/-- THE SECOND FORM's CARD OF 'greffierlaw19.CrlWrites'. -/
def crlWritesUptoCard : Claim7 := { stood := { row := crlWritesUptoRow, standIns := [], harness := (true, "db2c5f12cf428821bc244bfe28558ba8887b7d8a87e082c4718f3df30f2897d7"), looks := false }, kinds := [], alts := [], laidByText := true, laidKinds := [.data, .data, .data], laidTests := true, laidLooks := .later }
def CrlWritesUptoCardSaid : Prop := Claim7.holds Tryd.pinned (.plain (OpenSpec.upto crlWritesSpec)) crlWritesUptoCard
end Rows
end Go.Proofs.YticjhogofoffmaaDoor

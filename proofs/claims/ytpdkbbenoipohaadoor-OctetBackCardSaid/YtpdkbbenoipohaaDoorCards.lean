/-
  DERIVED. GIVEN WITH THE SEED: THE CARDS: each row of YtpdkbbenoipohaaDoorRows.lean that lists a variable, with what it lists TIED to the program's text (the seventh form; the later family's looks); each row that meets fmt, with fmt's text TOLD by the authors' own Lean function (tested against real Go, not proved from fmt's source: count such statements apart). THE CARD IS WHAT COUNTS. Prove the row's statement (the work); the ties are given (YtpdkbbenoipohaaDoorTie.lean); close each card by the builder's one call (the guide's Derived/Test/ToyasCard.lean, 'card_holds'). Laid BY PROGRAM, IN A SANDBOX (cutbox-door.mjs). By AI agents, Wed Nov 11 2026. No macro, syntax, notation, axiom, sorry.
-/
import Derived.Test.YtpdkbbenoipohaaDoorRows
import GoSem.ClaimSeven
namespace Go.Proofs.YtpdkbbenoipohaaDoor
namespace Rows

/-- THE TIED CARD OF 'greffierlaw01.OctetLens'. -/
def octetLensCard : Claim7 := { stood := { row := octetLensRow, standIns := [], harness := (true, "8b4636a7f03891a8fab294ca29d666248c51edfbe2e818e9cc3d37dba0e7d3b2"), looks := false }, kinds := [], alts := [], laidByText := true, laidKinds := [.data, .data, .data], laidTests := true, laidLooks := .later }
def OctetLensCardSaid : Prop := Claim7.holds Tryd.pinned (.plain (OpenSpec.ofChange octetLensSpec)) octetLensCard

/-- THE TIED CARD OF 'greffierlaw01.OctetBack'. -/
def octetBackCard : Claim7 := { stood := { row := octetBackRow, standIns := [], harness := (true, "8b4636a7f03891a8fab294ca29d666248c51edfbe2e818e9cc3d37dba0e7d3b2"), looks := false }, kinds := [], alts := [], laidByText := true, laidKinds := [.data, .data, .data], laidTests := true, laidLooks := .later }
def OctetBackCardSaid : Prop := Claim7.holds Tryd.pinned (.plain (OpenSpec.ofChange octetBackSpec)) octetBackCard

/-- THE SECOND FORM's CARD OF 'greffierlaw01.OctetLens'. -/
def octetLensUptoCard : Claim7 := { stood := { row := octetLensUptoRow, standIns := [], harness := (true, "8b4636a7f03891a8fab294ca29d666248c51edfbe2e818e9cc3d37dba0e7d3b2"), looks := false }, kinds := [], alts := [], laidByText := true, laidKinds := [.data, .data, .data], laidTests := true, laidLooks := .later }
def OctetLensUptoCardSaid : Prop := Claim7.holds Tryd.pinned (.plain (OpenSpec.upto octetLensSpec)) octetLensUptoCard

/-- THE SECOND FORM's CARD OF 'greffierlaw01.OctetBack'. -/
def octetBackUptoCard : Claim7 := { stood := { row := octetBackUptoRow, standIns := [], harness := (true, "8b4636a7f03891a8fab294ca29d666248c51edfbe2e818e9cc3d37dba0e7d3b2"), looks := false }, kinds := [], alts := [], laidByText := true, laidKinds := [.data, .data, .data], laidTests := true, laidLooks := .later }
def OctetBackUptoCardSaid : Prop := Claim7.holds Tryd.pinned (.plain (OpenSpec.upto octetBackSpec)) octetBackUptoCard
end Rows
end Go.Proofs.YtpdkbbenoipohaaDoor

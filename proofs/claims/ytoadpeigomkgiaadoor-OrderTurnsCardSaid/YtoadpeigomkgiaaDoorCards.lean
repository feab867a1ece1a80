/-
  DERIVED. GIVEN WITH THE SEED: THE CARDS: each row of YtoadpeigomkgiaaDoorRows.lean that lists a variable, with what it lists TIED to the program's text (the seventh form; the later family's looks); each row that meets fmt, with fmt's text TOLD by the authors' own Lean function (tested against real Go, not proved from fmt's source: count such statements apart). THE CARD IS WHAT COUNTS. Prove the row's statement (the work); the ties are given (YtoadpeigomkgiaaDoorTie.lean); close each card by the builder's one call (the guide's Derived/Test/ToyasCard.lean, 'card_holds'). Laid BY PROGRAM, IN A SANDBOX (cutbox-door.mjs). By AI agents, Wed Nov 11 2026. No macro, syntax, notation, axiom, sorry.
-/
import Derived.Test.YtoadpeigomkgiaaDoorRows
import GoSem.ClaimSeven
namespace Go.Proofs.YtoadpeigomkgiaaDoor
namespace Rows

/-- THE TIED CARD OF 'greffierlaw11.OrderCompares'. -/
def orderComparesCard : Claim7 := { stood := { row := orderComparesRow, standIns := [], harness := (true, "b21e1af7f9b6347cea4770eff56c79d23dc35893432102465378898d0a22939e"), looks := false }, kinds := [], alts := [], laidByText := true, laidKinds := [.data, .pinned], laidTests := true, laidLooks := .later }
def OrderComparesCardSaid : Prop := Claim7.holds Tryd.pinned (.plain (OpenSpec.ofChange orderComparesSpec)) orderComparesCard

/-- THE TIED CARD OF 'greffierlaw11.OrderRanges'. -/
def orderRangesCard : Claim7 := { stood := { row := orderRangesRow, standIns := [], harness := (true, "b21e1af7f9b6347cea4770eff56c79d23dc35893432102465378898d0a22939e"), looks := false }, kinds := [], alts := [], laidByText := true, laidKinds := [.data, .pinned], laidTests := true, laidLooks := .later }
def OrderRangesCardSaid : Prop := Claim7.holds Tryd.pinned (.plain (OpenSpec.ofChange orderRangesSpec)) orderRangesCard

/-- THE TIED CARD OF 'greffierlaw11.OrderWithin'. -/
def orderWithinCard : Claim7 := { stood := { row := orderWithinRow, standIns := [], harness := (true, "b21e1af7f9b6347cea4770eff56c79d23dc35893432102465378898d0a22939e"), looks := false }, kinds := [], alts := [], laidByText := true, laidKinds := [.data, .pinned], laidTests := true, laidLooks := .later }
def OrderWithinCardSaid : Prop := Claim7.holds Tryd.pinned (.plain (OpenSpec.ofChange orderWithinSpec)) orderWithinCard

/-- THE TIED CARD OF 'greffierlaw11.OrderMeets'. -/
def orderMeetsCard : Claim7 := { stood := { row := orderMeetsRow, standIns := [], harness := (true, "b21e1af7f9b6347cea4770eff56c79d23dc35893432102465378898d0a22939e"), looks := false }, kinds := [], alts := [], laidByText := true, laidKinds := [.data, .pinned], laidTests := true, laidLooks := .later }
def OrderMeetsCardSaid : Prop := Claim7.holds Tryd.pinned (.plain (OpenSpec.ofChange orderMeetsSpec)) orderMeetsCard

/-- THE TIED CARD OF 'greffierlaw11.OrderTurns'. -/
def orderTurnsCard : Claim7 := { stood := { row := orderTurnsRow, standIns := [], harness := (true, "b21e1af7f9b6347cea4770eff56c79d23dc35893432102465378898d0a22939e"), looks := false }, kinds := [], alts := [], laidByText := true, laidKinds := [.data, .pinned], laidTests := true, laidLooks := .later }
def OrderTurnsCardSaid : Prop := Claim7.holds Tryd.pinned (.plain (OpenSpec.ofChange orderTurnsSpec)) orderTurnsCard

/-- THE SECOND FORM's CARD OF 'greffierlaw11.OrderCompares'. -/
def orderComparesUptoCard : Claim7 := { stood := { row := orderComparesUptoRow, standIns := [], harness := (true, "b21e1af7f9b6347cea4770eff56c79d23dc35893432102465378898d0a22939e"), looks := false }, kinds := [], alts := [], laidByText := true, laidKinds := [.data, .pinned], laidTests := true, laidLooks := .later }
def OrderComparesUptoCardSaid : Prop := Claim7.holds Tryd.pinned (.plain (OpenSpec.upto orderComparesSpec)) orderComparesUptoCard

/-- THE SECOND FORM's CARD OF 'greffierlaw11.OrderRanges'. -/
def orderRangesUptoCard : Claim7 := { stood := { row := orderRangesUptoRow, standIns := [], harness := (true, "b21e1af7f9b6347cea4770eff56c79d23dc35893432102465378898d0a22939e"), looks := false }, kinds := [], alts := [], laidByText := true, laidKinds := [.data, .pinned], laidTests := true, laidLooks := .later }
def OrderRangesUptoCardSaid : Prop := Claim7.holds Tryd.pinned (.plain (OpenSpec.upto orderRangesSpec)) orderRangesUptoCard

/-- THE SECOND FORM's CARD OF 'greffierlaw11.OrderWithin'. -/
def orderWithinUptoCard : Claim7 := { stood := { row := orderWithinUptoRow, standIns := [], harness := (true, "b21e1af7f9b6347cea4770eff56c79d23dc35893432102465378898d0a22939e"), looks := false }, kinds := [], alts := [], laidByText := true, laidKinds := [.data, .pinned], laidTests := true, laidLooks := .later }
def OrderWithinUptoCardSaid : Prop := Claim7.holds Tryd.pinned (.plain (OpenSpec.upto orderWithinSpec)) orderWithinUptoCard

/-- THE SECOND FORM's CARD OF 'greffierlaw11.OrderMeets'. -/
def orderMeetsUptoCard : Claim7 := { stood := { row := orderMeetsUptoRow, standIns := [], harness := (true, "b21e1af7f9b6347cea4770eff56c79d23dc35893432102465378898d0a22939e"), looks := false }, kinds := [], alts := [], laidByText := true, laidKinds := [.data, .pinned], laidTests := true, laidLooks := .later }
def OrderMeetsUptoCardSaid : Prop := Claim7.holds Tryd.pinned (.plain (OpenSpec.upto orderMeetsSpec)) orderMeetsUptoCard

/-- THE SECOND FORM's CARD OF 'greffierlaw11.OrderTurns'. -/
def orderTurnsUptoCard : Claim7 := { stood := { row := orderTurnsUptoRow, standIns := [], harness := (true, "b21e1af7f9b6347cea4770eff56c79d23dc35893432102465378898d0a22939e"), looks := false }, kinds := [], alts := [], laidByText := true, laidKinds := [.data, .pinned], laidTests := true, laidLooks := .later }
def OrderTurnsUptoCardSaid : Prop := Claim7.holds Tryd.pinned (.plain (OpenSpec.upto orderTurnsSpec)) orderTurnsUptoCard
end Rows
end Go.Proofs.YtoadpeigomkgiaaDoor

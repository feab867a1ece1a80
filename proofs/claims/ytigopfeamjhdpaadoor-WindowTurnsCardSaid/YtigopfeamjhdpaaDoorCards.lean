/-
  DERIVED. GIVEN WITH THE SEED: THE CARDS: each row of YtigopfeamjhdpaaDoorRows.lean that lists a variable, with what it lists TIED to the program's text (the seventh form; the later family's looks); each row that meets fmt, with fmt's text TOLD by the authors' own Lean function (tested against real Go, not proved from fmt's source: count such statements apart). THE CARD IS WHAT COUNTS. Prove the row's statement (the work); the ties are given (YtigopfeamjhdpaaDoorTie.lean); close each card by the builder's one call (the guide's Derived/Test/ToyasCard.lean, 'card_holds'). Laid BY PROGRAM, IN A SANDBOX (cutbox-door.mjs). By AI agents, Wed Nov 11 2026. No macro, syntax, notation, axiom, sorry.
-/
import Derived.Test.YtigopfeamjhdpaaDoorRows
import GoSem.ClaimSeven
namespace Go.Proofs.YtigopfeamjhdpaaDoor
namespace Rows

/-- THE TIED CARD OF 'greffierlaw15.WindowWrites'. -/
def windowWritesCard : Claim7 := { stood := { row := windowWritesRow, standIns := [], harness := (true, "7ccb5edb65650aeb296d24e5f961b1df3303201b23c961f64373124a3e997f45"), looks := true }, kinds := [], alts := [], laidByText := true, laidKinds := [.data, .data, .data], laidTests := true, laidLooks := .later }
def WindowWritesCardSaid : Prop := Claim7.holds Tryd.pinned (.plain (OpenSpec.ofChange windowWritesSpec)) windowWritesCard

/-- THE TIED CARD OF 'greffierlaw15.WindowReads'. -/
def windowReadsCard : Claim7 := { stood := { row := windowReadsRow, standIns := [], harness := (true, "7ccb5edb65650aeb296d24e5f961b1df3303201b23c961f64373124a3e997f45"), looks := true }, kinds := [], alts := [], laidByText := true, laidKinds := [.data, .data, .data], laidTests := true, laidLooks := .later }
def WindowReadsCardSaid : Prop := Claim7.holds Tryd.pinned (.plain (OpenSpec.ofChange windowReadsSpec)) windowReadsCard

/-- THE TIED CARD OF 'greffierlaw15.WindowTurns'. -/
def windowTurnsCard : Claim7 := { stood := { row := windowTurnsRow, standIns := [], harness := (true, "7ccb5edb65650aeb296d24e5f961b1df3303201b23c961f64373124a3e997f45"), looks := true }, kinds := [], alts := [], laidByText := true, laidKinds := [.data, .data, .data], laidTests := true, laidLooks := .later }
def WindowTurnsCardSaid : Prop := Claim7.holds Tryd.pinned (.plain (OpenSpec.ofChange windowTurnsSpec)) windowTurnsCard

/-- THE TIED CARD OF 'greffierlaw15.WindowMeets'. -/
def windowMeetsCard : Claim7 := { stood := { row := windowMeetsRow, standIns := [], harness := (true, "7ccb5edb65650aeb296d24e5f961b1df3303201b23c961f64373124a3e997f45"), looks := true }, kinds := [], alts := [], laidByText := true, laidKinds := [.data, .data, .data], laidTests := true, laidLooks := .later }
def WindowMeetsCardSaid : Prop := Claim7.holds Tryd.pinned (.plain (OpenSpec.ofChange windowMeetsSpec)) windowMeetsCard

/-- THE SECOND FORM's CARD OF 'greffierlaw15.WindowWrites'. -/
def windowWritesUptoCard : Claim7 := { stood := { row := windowWritesUptoRow, standIns := [], harness := (true, "7ccb5edb65650aeb296d24e5f961b1df3303201b23c961f64373124a3e997f45"), looks := true }, kinds := [], alts := [], laidByText := true, laidKinds := [.data, .data, .data], laidTests := true, laidLooks := .later }
def WindowWritesUptoCardSaid : Prop := Claim7.holds Tryd.pinned (.plain (OpenSpec.upto windowWritesSpec)) windowWritesUptoCard

/-- THE SECOND FORM's CARD OF 'greffierlaw15.WindowReads'. -/
def windowReadsUptoCard : Claim7 := { stood := { row := windowReadsUptoRow, standIns := [], harness := (true, "7ccb5edb65650aeb296d24e5f961b1df3303201b23c961f64373124a3e997f45"), looks := true }, kinds := [], alts := [], laidByText := true, laidKinds := [.data, .data, .data], laidTests := true, laidLooks := .later }
def WindowReadsUptoCardSaid : Prop := Claim7.holds Tryd.pinned (.plain (OpenSpec.upto windowReadsSpec)) windowReadsUptoCard

/-- THE SECOND FORM's CARD OF 'greffierlaw15.WindowTurns'. -/
def windowTurnsUptoCard : Claim7 := { stood := { row := windowTurnsUptoRow, standIns := [], harness := (true, "7ccb5edb65650aeb296d24e5f961b1df3303201b23c961f64373124a3e997f45"), looks := true }, kinds := [], alts := [], laidByText := true, laidKinds := [.data, .data, .data], laidTests := true, laidLooks := .later }
def WindowTurnsUptoCardSaid : Prop := Claim7.holds Tryd.pinned (.plain (OpenSpec.upto windowTurnsSpec)) windowTurnsUptoCard

/-- THE SECOND FORM's CARD OF 'greffierlaw15.WindowMeets'. -/
def windowMeetsUptoCard : Claim7 := { stood := { row := windowMeetsUptoRow, standIns := [], harness := (true, "7ccb5edb65650aeb296d24e5f961b1df3303201b23c961f64373124a3e997f45"), looks := true }, kinds := [], alts := [], laidByText := true, laidKinds := [.data, .data, .data], laidTests := true, laidLooks := .later }
def WindowMeetsUptoCardSaid : Prop := Claim7.holds Tryd.pinned (.plain (OpenSpec.upto windowMeetsSpec)) windowMeetsUptoCard
end Rows
end Go.Proofs.YtigopfeamjhdpaaDoor

/-
  DERIVED. GIVEN WITH THE SEED: THE CARDS: each row of YtcflgoddfakepaaDoorRows.lean that lists a variable, with what it lists TIED to the program's text (the seventh form; the later family's looks); each row that meets fmt, with fmt's text TOLD by the authors' own Lean function (tested against real Go, not proved from fmt's source: count such statements apart). THE CARD IS WHAT COUNTS. Prove the row's statement (the work); the ties are given (YtcflgoddfakepaaDoorTie.lean); close each card by the builder's one call (the guide's Derived/Test/ToyasCard.lean, 'card_holds'). Laid BY PROGRAM, IN A SANDBOX (cutbox-door.mjs). By AI agents, Wed Nov 11 2026. No macro, syntax, notation, axiom, sorry.
-/
import Derived.Test.YtcflgoddfakepaaDoorRows
import GoSem.ClaimSeven
namespace Go.Proofs.YtcflgoddfakepaaDoor
namespace Rows

/-- THE TIED CARD OF 'greffierlaw02.SexpOne'. -/
def sexpOneCard : Claim7 := { stood := { row := sexpOneRow, standIns := [], harness := (true, "632157f61796eb4f57a79b3dfc28b599602250e6972971503e0f3a641a7eba32"), looks := true }, kinds := [], alts := [], laidByText := true, laidKinds := [.data, .data, .data], laidTests := true, laidLooks := .later }
def SexpOneCardSaid : Prop := Claim7.holds Tryd.pinned (.plain (OpenSpec.ofChange sexpOneSpec)) sexpOneCard

/-- THE TIED CARD OF 'greffierlaw02.SexpLists'. -/
def sexpListsCard : Claim7 := { stood := { row := sexpListsRow, standIns := [], harness := (true, "632157f61796eb4f57a79b3dfc28b599602250e6972971503e0f3a641a7eba32"), looks := true }, kinds := [], alts := [], laidByText := true, laidKinds := [.data, .data, .data], laidTests := true, laidLooks := .later }
def SexpListsCardSaid : Prop := Claim7.holds Tryd.pinned (.plain (OpenSpec.ofChange sexpListsSpec)) sexpListsCard

/-- THE TIED CARD OF 'greffierlaw02.SexpSame'. -/
def sexpSameCard : Claim7 := { stood := { row := sexpSameRow, standIns := [], harness := (true, "632157f61796eb4f57a79b3dfc28b599602250e6972971503e0f3a641a7eba32"), looks := true }, kinds := [], alts := [], laidByText := true, laidKinds := [.data, .data, .data], laidTests := true, laidLooks := .later }
def SexpSameCardSaid : Prop := Claim7.holds Tryd.pinned (.plain (OpenSpec.ofChange sexpSameSpec)) sexpSameCard

/-- THE TIED CARD OF 'greffierlaw02.SexpWrites'. -/
def sexpWritesCard : Claim7 := { stood := { row := sexpWritesRow, standIns := [], harness := (true, "632157f61796eb4f57a79b3dfc28b599602250e6972971503e0f3a641a7eba32"), looks := true }, kinds := [], alts := [], laidByText := true, laidKinds := [.data, .data, .data], laidTests := true, laidLooks := .later }
def SexpWritesCardSaid : Prop := Claim7.holds Tryd.pinned (.plain (OpenSpec.ofChange sexpWritesSpec)) sexpWritesCard

/-- THE TIED CARD OF 'greffierlaw02.SexpReads'. -/
def sexpReadsCard : Claim7 := { stood := { row := sexpReadsRow, standIns := [], harness := (true, "632157f61796eb4f57a79b3dfc28b599602250e6972971503e0f3a641a7eba32"), looks := true }, kinds := [], alts := [], laidByText := true, laidKinds := [.data, .data, .data], laidTests := true, laidLooks := .later }
def SexpReadsCardSaid : Prop := Claim7.holds Tryd.pinned (.plain (OpenSpec.ofChange sexpReadsSpec)) sexpReadsCard

/-- THE TIED CARD OF 'greffierlaw02.SexpCuts'. -/
def sexpCutsCard : Claim7 := { stood := { row := sexpCutsRow, standIns := [], harness := (true, "632157f61796eb4f57a79b3dfc28b599602250e6972971503e0f3a641a7eba32"), looks := true }, kinds := [], alts := [], laidByText := true, laidKinds := [.data, .data, .data], laidTests := true, laidLooks := .later }
def SexpCutsCardSaid : Prop := Claim7.holds Tryd.pinned (.plain (OpenSpec.ofChange sexpCutsSpec)) sexpCutsCard

/-- THE TIED CARD OF 'greffierlaw02.SexpMore'. -/
def sexpMoreCard : Claim7 := { stood := { row := sexpMoreRow, standIns := [], harness := (true, "632157f61796eb4f57a79b3dfc28b599602250e6972971503e0f3a641a7eba32"), looks := true }, kinds := [], alts := [], laidByText := true, laidKinds := [.data, .data, .data], laidTests := true, laidLooks := .later }
def SexpMoreCardSaid : Prop := Claim7.holds Tryd.pinned (.plain (OpenSpec.ofChange sexpMoreSpec)) sexpMoreCard

/-- THE SECOND FORM's CARD OF 'greffierlaw02.SexpOne'. -/
def sexpOneUptoCard : Claim7 := { stood := { row := sexpOneUptoRow, standIns := [], harness := (true, "632157f61796eb4f57a79b3dfc28b599602250e6972971503e0f3a641a7eba32"), looks := true }, kinds := [], alts := [], laidByText := true, laidKinds := [.data, .data, .data], laidTests := true, laidLooks := .later }
def SexpOneUptoCardSaid : Prop := Claim7.holds Tryd.pinned (.plain (OpenSpec.upto sexpOneSpec)) sexpOneUptoCard

/-- THE SECOND FORM's CARD OF 'greffierlaw02.SexpLists'. -/
def sexpListsUptoCard : Claim7 := { stood := { row := sexpListsUptoRow, standIns := [], harness := (true, "632157f61796eb4f57a79b3dfc28b599602250e6972971503e0f3a641a7eba32"), looks := true }, kinds := [], alts := [], laidByText := true, laidKinds := [.data, .data, .data], laidTests := true, laidLooks := .later }
def SexpListsUptoCardSaid : Prop := Claim7.holds Tryd.pinned (.plain (OpenSpec.upto sexpListsSpec)) sexpListsUptoCard

/-- THE SECOND FORM's CARD OF 'greffierlaw02.SexpSame'. -/
def sexpSameUptoCard : Claim7 := { stood := { row := sexpSameUptoRow, standIns := [], harness := (true, "632157f61796eb4f57a79b3dfc28b599602250e6972971503e0f3a641a7eba32"), looks := true }, kinds := [], alts := [], laidByText := true, laidKinds := [.data, .data, .data], laidTests := true, laidLooks := .later }
def SexpSameUptoCardSaid : Prop := Claim7.holds Tryd.pinned (.plain (OpenSpec.upto sexpSameSpec)) sexpSameUptoCard

/-- THE SECOND FORM's CARD OF 'greffierlaw02.SexpWrites'. -/
def sexpWritesUptoCard : Claim7 := { stood := { row := sexpWritesUptoRow, standIns := [], harness := (true, "632157f61796eb4f57a79b3dfc28b599602250e6972971503e0f3a641a7eba32"), looks := true }, kinds := [], alts := [], laidByText := true, laidKinds := [.data, .data, .data], laidTests := true, laidLooks := .later }
def SexpWritesUptoCardSaid : Prop := Claim7.holds Tryd.pinned (.plain (OpenSpec.upto sexpWritesSpec)) sexpWritesUptoCard

/-- THE SECOND FORM's CARD OF 'greffierlaw02.SexpReads'. -/
def sexpReadsUptoCard : Claim7 := { stood := { row := sexpReadsUptoRow, standIns := [], harness := (true, "632157f61796eb4f57a79b3dfc28b599602250e6972971503e0f3a641a7eba32"), looks := true }, kinds := [], alts := [], laidByText := true, laidKinds := [.data, .data, .data], laidTests := true, laidLooks := .later }
def SexpReadsUptoCardSaid : Prop := Claim7.holds Tryd.pinned (.plain (OpenSpec.upto sexpReadsSpec)) sexpReadsUptoCard

/-- THE SECOND FORM's CARD OF 'greffierlaw02.SexpCuts'. -/
def sexpCutsUptoCard : Claim7 := { stood := { row := sexpCutsUptoRow, standIns := [], harness := (true, "632157f61796eb4f57a79b3dfc28b599602250e6972971503e0f3a641a7eba32"), looks := true }, kinds := [], alts := [], laidByText := true, laidKinds := [.data, .data, .data], laidTests := true, laidLooks := .later }
def SexpCutsUptoCardSaid : Prop := Claim7.holds Tryd.pinned (.plain (OpenSpec.upto sexpCutsSpec)) sexpCutsUptoCard

/-- THE SECOND FORM's CARD OF 'greffierlaw02.SexpMore'. -/
def sexpMoreUptoCard : Claim7 := { stood := { row := sexpMoreUptoRow, standIns := [], harness := (true, "632157f61796eb4f57a79b3dfc28b599602250e6972971503e0f3a641a7eba32"), looks := true }, kinds := [], alts := [], laidByText := true, laidKinds := [.data, .data, .data], laidTests := true, laidLooks := .later }
def SexpMoreUptoCardSaid : Prop := Claim7.holds Tryd.pinned (.plain (OpenSpec.upto sexpMoreSpec)) sexpMoreUptoCard
end Rows
end Go.Proofs.YtcflgoddfakepaaDoor

/-
  DERIVED. GIVEN WITH THE SEED: THE CARDS: each row of YthmigigclmogiaaDoorRows.lean that lists a variable, with what it lists TIED to the program's text (the seventh form; the later family's looks); each row that meets fmt, with fmt's text TOLD by the authors' own Lean function (tested against real Go, not proved from fmt's source: count such statements apart). THE CARD IS WHAT COUNTS. Prove the row's statement (the work); the ties are given (YthmigigclmogiaaDoorTie.lean); close each card by the builder's one call (the guide's Derived/Test/ToyasCard.lean, 'card_holds'). Laid BY PROGRAM, IN A SANDBOX (cutbox-door.mjs). By AI agents, Wed Nov 11 2026. No macro, syntax, notation, axiom, sorry.
-/
import Derived.Test.YthmigigclmogiaaDoorRows
import GoSem.ClaimSeven
namespace Go.Proofs.YthmigigclmogiaaDoor
namespace Rows

/-- THE TIED CARD OF 'greffierlaw16.SubjectOne'. -/
def subjectOneCard : Claim7 := { stood := { row := subjectOneRow, standIns := [], harness := (true, "80f359dc25042bad44b219a6003d6a121e73eafa8c7d0c6a71423ab256250c18"), looks := false }, kinds := [], alts := [], laidByText := true, laidKinds := [.data, .data, .data], laidTests := true, laidLooks := .later }
def SubjectOneCardSaid : Prop := Claim7.holds Tryd.pinned (.plain (OpenSpec.ofChange subjectOneSpec)) subjectOneCard

/-- THE TIED CARD OF 'greffierlaw16.SubjectKeys'. -/
def subjectKeysCard : Claim7 := { stood := { row := subjectKeysRow, standIns := [], harness := (true, "80f359dc25042bad44b219a6003d6a121e73eafa8c7d0c6a71423ab256250c18"), looks := false }, kinds := [], alts := [], laidByText := true, laidKinds := [.data, .data, .data], laidTests := true, laidLooks := .later }
def SubjectKeysCardSaid : Prop := Claim7.holds Tryd.pinned (.plain (OpenSpec.ofChange subjectKeysSpec)) subjectKeysCard

/-- THE SECOND FORM's CARD OF 'greffierlaw16.SubjectOne'. -/
def subjectOneUptoCard : Claim7 := { stood := { row := subjectOneUptoRow, standIns := [], harness := (true, "80f359dc25042bad44b219a6003d6a121e73eafa8c7d0c6a71423ab256250c18"), looks := false }, kinds := [], alts := [], laidByText := true, laidKinds := [.data, .data, .data], laidTests := true, laidLooks := .later }
def SubjectOneUptoCardSaid : Prop := Claim7.holds Tryd.pinned (.plain (OpenSpec.upto subjectOneSpec)) subjectOneUptoCard

/-- THE SECOND FORM's CARD OF 'greffierlaw16.SubjectKeys'. -/
def subjectKeysUptoCard : Claim7 := { stood := { row := subjectKeysUptoRow, standIns := [], harness := (true, "80f359dc25042bad44b219a6003d6a121e73eafa8c7d0c6a71423ab256250c18"), looks := false }, kinds := [], alts := [], laidByText := true, laidKinds := [.data, .data, .data], laidTests := true, laidLooks := .later }
def SubjectKeysUptoCardSaid : Prop := Claim7.holds Tryd.pinned (.plain (OpenSpec.upto subjectKeysSpec)) subjectKeysUptoCard
end Rows
end Go.Proofs.YthmigigclmogiaaDoor

/-
  No cell of these rows narrows 'for every input' (looked for: loops, veiled, ifaces, maps, wideKeys, modest, calm, conditions, laid).
  DERIVED. THE GIVEN ROWS OF THIS SEAT. 4 by the template 'for every input the law returns true; each argument reads behind the call as it read before'; 0 by the template 'total and deterministic' (their statements: YtpdkbbenoipohaaTotals.lean).
  GIVEN WITH THE SEED: the statements are not yours to turn. If you find one false, say at which input.
  Laid BY PROGRAM, IN A SANDBOX (cutbox-rows.mjs): the forced cells as the released guide's own fill.sh prints them over the translation da117e2b7979bda0… (all of the seat's roots in one cut). By AI agents, Wed Nov 11 2026. No macro, syntax, notation, axiom, sorry.
-/
import Derived.Test.YtpdkbbenoipohaaChecked
import GoSem.Claim
import GoSem.ClaimJoined
import GoSem.ClaimMapViews
import Derived.JoinedTies
import Derived.KernelRfl
namespace Go.Proofs.Ytpdkbbenoipohaa
/- THE CELL 'sum', in the pinned program and in every row, IS THE sha256 OF THE DUMP (.gsa) THAT YtpdkbbenoipohaaProg.lean LOADS. Nothing in Lean hashes anything: it is a label: what it is worth is what the hold of that sum in a sandbox is worth. -/
noncomputable def Try.pinned : Pinned := { name := "ytpdkbbenoipohaa", sum := "da117e2b7979bda02f9548642d529783d0d65c75ef1813bc96745cd4ad9f068e", checked := Try.checked }
namespace Rows
def none {H : Type} : Left H := { results := [], args := [] }

/-- 'greffierlaw01.OctetThirds': WHATEVER THE INPUT: true; the input reads as it did. -/
def octetThirdsSpec : ChangeSpec := { name := "octetThirds", fn := fun _ => fun
  | [d1, d2] => { results := [.lit (.bool true)], args := [d1, d2] }
  | _ => none }
def octetThirdsRow : OpenClaim := { program := "ytpdkbbenoipohaa", sum := "da117e2b7979bda02f9548642d529783d0d65c75ef1813bc96745cd4ad9f068e", func := "greffier/greffierlaw01.OctetThirds", spec := "octetThirds", inPlace := ["internal/abi.NoEscape"], apart := false }
def OctetThirdsSaid : Prop := octetThirdsRow.holds Try.pinned (OpenSpec.ofChange octetThirdsSpec)

/-- ITS FALSE NEIGHBOUR: 'it returns false'. Refute it at one input. -/
def octetThirdsWrong : ChangeSpec := { name := "octetThirds", fn := fun _ => fun
  | [d1, d2] => { results := [.lit (.bool false)], args := [d1, d2] }
  | _ => none }
def OctetThirdsWrongFalsely : Prop := octetThirdsRow.holds Try.pinned (OpenSpec.ofChange octetThirdsWrong)

/-- 'greffierlaw01.OctetCase': WHATEVER THE INPUT: true; the input reads as it did. -/
def octetCaseSpec : ChangeSpec := { name := "octetCase", fn := fun _ => fun
  | [d1, d2] => { results := [.lit (.bool true)], args := [d1, d2] }
  | _ => none }
def octetCaseRow : OpenClaim := { program := "ytpdkbbenoipohaa", sum := "da117e2b7979bda02f9548642d529783d0d65c75ef1813bc96745cd4ad9f068e", func := "greffier/greffierlaw01.OctetCase", spec := "octetCase", inPlace := ["internal/abi.NoEscape", "internal/bytealg.IndexByteString"], apart := false }
def OctetCaseSaid : Prop := octetCaseRow.holds Try.pinned (OpenSpec.ofChange octetCaseSpec)

/-- ITS FALSE NEIGHBOUR: 'it returns false'. Refute it at one input. -/
def octetCaseWrong : ChangeSpec := { name := "octetCase", fn := fun _ => fun
  | [d1, d2] => { results := [.lit (.bool false)], args := [d1, d2] }
  | _ => none }
def OctetCaseWrongFalsely : Prop := octetCaseRow.holds Try.pinned (OpenSpec.ofChange octetCaseWrong)

/-- 'greffierlaw01.OctetReads': WHATEVER THE INPUT: true; the input reads as it did. -/
def octetReadsSpec : ChangeSpec := { name := "octetReads", fn := fun _ => fun
  | [d] => { results := [.lit (.bool true)], args := [d] }
  | _ => none }
def octetReadsRow : OpenClaim := { program := "ytpdkbbenoipohaa", sum := "da117e2b7979bda02f9548642d529783d0d65c75ef1813bc96745cd4ad9f068e", func := "greffier/greffierlaw01.OctetReads", spec := "octetReads", inPlace := ["internal/abi.NoEscape", "internal/bytealg.IndexByteString"], apart := false }
def OctetReadsSaid : Prop := octetReadsRow.holds Try.pinned (OpenSpec.ofChange octetReadsSpec)

/-- ITS FALSE NEIGHBOUR: 'it returns false'. Refute it at one input. -/
def octetReadsWrong : ChangeSpec := { name := "octetReads", fn := fun _ => fun
  | [d] => { results := [.lit (.bool false)], args := [d] }
  | _ => none }
def OctetReadsWrongFalsely : Prop := octetReadsRow.holds Try.pinned (OpenSpec.ofChange octetReadsWrong)

/-- 'greffierlaw01.OctetWrites': WHATEVER THE INPUT: true; the input reads as it did. -/
def octetWritesSpec : ChangeSpec := { name := "octetWrites", fn := fun _ => fun
  | [d] => { results := [.lit (.bool true)], args := [d] }
  | _ => none }
def octetWritesRow : OpenClaim := { program := "ytpdkbbenoipohaa", sum := "da117e2b7979bda02f9548642d529783d0d65c75ef1813bc96745cd4ad9f068e", func := "greffier/greffierlaw01.OctetWrites", spec := "octetWrites", inPlace := ["internal/abi.NoEscape", "internal/bytealg.IndexByteString"], apart := false }
def OctetWritesSaid : Prop := octetWritesRow.holds Try.pinned (OpenSpec.ofChange octetWritesSpec)

/-- ITS FALSE NEIGHBOUR: 'it returns false'. Refute it at one input. -/
def octetWritesWrong : ChangeSpec := { name := "octetWrites", fn := fun _ => fun
  | [d] => { results := [.lit (.bool false)], args := [d] }
  | _ => none }
def OctetWritesWrongFalsely : Prop := octetWritesRow.holds Try.pinned (OpenSpec.ofChange octetWritesWrong)

/- THE SECOND FORM. 'bulk': how many values and letters a reading holds, each counted each time it is reached (what is shared counts as often as it is met; a slice's spare places count too). A statement '..UptoSaid' is the law's where the arguments, and the package variables that the reading takes, are together of bulk at most 1048576: NARROWER than '..Said'. Prove '..Said' where nothing that the law and all that it calls make is longer than what came in: it says more and counts as full. Else prove '..UptoSaid'. A law counts once. -/
mutual
def uptoBulk {H : Type} : DataW H → Nat
  | .lit (.string bytes) => bytes.length + 1
  | .lit _ => 1
  | .nil => 1
  | .ptr d => uptoBulk d + 1
  | .slice elems spare => uptoBulkAll elems + uptoBulkAll spare + 1
  | .agg parts => uptoBulkAll parts + 1
  | .iface _ d => uptoBulk d + 1
  | .map entries => uptoBulkEntries entries + 1
  | .held _ => 1
def uptoBulkAll {H : Type} : List (DataW H) → Nat
  | [] => 0
  | d :: r => uptoBulk d + uptoBulkAll r
def uptoBulkEntries {H : Type} : List (Lit × DataW H) → Nat
  | [] => 0
  | x :: r => uptoBulkEntry x + uptoBulkEntries r
def uptoBulkEntry {H : Type} : Lit × DataW H → Nat
  | (.string bytes, d) => bytes.length + uptoBulk d + 1
  | (_, d) => uptoBulk d + 1
 end
def uptoSmall : (H : Type) → List (DataW H) → Bool := fun _ ds => decide (uptoBulkAll ds ≤ 1048576)
def OpenSpec.upto (s : _root_.Go.ChangeSpec) : _root_.Go.OpenSpec := { _root_.Go.OpenSpec.ofChange s with cond := some uptoSmall }

/-- 'greffierlaw01.OctetThirds', WHERE WHAT IT READS IS OF BULK AT MOST 1048576: true; the input reads as it did. -/
def octetThirdsUptoRow : OpenClaim := { program := "ytpdkbbenoipohaa", sum := "da117e2b7979bda02f9548642d529783d0d65c75ef1813bc96745cd4ad9f068e", func := "greffier/greffierlaw01.OctetThirds", spec := "octetThirds", inPlace := ["internal/abi.NoEscape"], apart := false, narrowed := true }
def OctetThirdsUptoSaid : Prop := octetThirdsUptoRow.holds Try.pinned (OpenSpec.upto octetThirdsSpec)

/-- 'greffierlaw01.OctetCase', WHERE WHAT IT READS IS OF BULK AT MOST 1048576: true; the input reads as it did. -/
def octetCaseUptoRow : OpenClaim := { program := "ytpdkbbenoipohaa", sum := "da117e2b7979bda02f9548642d529783d0d65c75ef1813bc96745cd4ad9f068e", func := "greffier/greffierlaw01.OctetCase", spec := "octetCase", inPlace := ["internal/abi.NoEscape", "internal/bytealg.IndexByteString"], apart := false, narrowed := true }
def OctetCaseUptoSaid : Prop := octetCaseUptoRow.holds Try.pinned (OpenSpec.upto octetCaseSpec)

/-- 'greffierlaw01.OctetReads', WHERE WHAT IT READS IS OF BULK AT MOST 1048576: true; the input reads as it did. -/
def octetReadsUptoRow : OpenClaim := { program := "ytpdkbbenoipohaa", sum := "da117e2b7979bda02f9548642d529783d0d65c75ef1813bc96745cd4ad9f068e", func := "greffier/greffierlaw01.OctetReads", spec := "octetReads", inPlace := ["internal/abi.NoEscape", "internal/bytealg.IndexByteString"], apart := false, narrowed := true }
def OctetReadsUptoSaid : Prop := octetReadsUptoRow.holds Try.pinned (OpenSpec.upto octetReadsSpec)

/-- 'greffierlaw01.OctetWrites', WHERE WHAT IT READS IS OF BULK AT MOST 1048576: true; the input reads as it did. -/
def octetWritesUptoRow : OpenClaim := { program := "ytpdkbbenoipohaa", sum := "da117e2b7979bda02f9548642d529783d0d65c75ef1813bc96745cd4ad9f068e", func := "greffier/greffierlaw01.OctetWrites", spec := "octetWrites", inPlace := ["internal/abi.NoEscape", "internal/bytealg.IndexByteString"], apart := false, narrowed := true }
def OctetWritesUptoSaid : Prop := octetWritesUptoRow.holds Try.pinned (OpenSpec.upto octetWritesSpec)

end Rows
end Go.Proofs.Ytpdkbbenoipohaa

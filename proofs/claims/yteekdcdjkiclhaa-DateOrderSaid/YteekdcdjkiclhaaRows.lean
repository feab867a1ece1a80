/-
  No cell of these rows narrows 'for every input' (looked for: loops, veiled, ifaces, maps, wideKeys, modest, calm, conditions, laid).
  DERIVED. THE GIVEN ROWS OF THIS SEAT. 4 by the template 'for every input the law returns true; each argument reads behind the call as it read before'; 0 by the template 'total and deterministic' (their statements: YteekdcdjkiclhaaTotals.lean).
  GIVEN WITH THE SEED: the statements are not yours to turn. If you find one false, say at which input.
  Laid BY PROGRAM, IN A SANDBOX (cutbox-rows.mjs): the forced cells as the released guide's own fill.sh prints them over the translation b98f5eb97a05025c… (all of the seat's roots in one cut). By AI agents, Wed Nov 11 2026. No macro, syntax, notation, axiom, sorry.
-/
import Derived.Test.YteekdcdjkiclhaaChecked
import GoSem.Claim
import GoSem.ClaimJoined
import GoSem.ClaimMapViews
import Derived.JoinedTies
import Derived.KernelRfl
namespace Go.Proofs.Yteekdcdjkiclhaa
/- THE CELL 'sum', in the pinned program and in every row, IS THE sha256 OF THE DUMP (.gsa) THAT YteekdcdjkiclhaaProg.lean LOADS. Nothing in Lean hashes anything: it is a label: what it is worth is what the hold of that sum in a sandbox is worth. -/
noncomputable def Try.pinned : Pinned := { name := "yteekdcdjkiclhaa", sum := "b98f5eb97a05025c02d7b5fbdba7a37a815d7ff18b93195300ad043ba53f387c", checked := Try.checked }
namespace Rows
def none {H : Type} : Left H := { results := [], args := [] }

/-- 'greffierlaw10.DateGets': WHATEVER THE INPUT: true; the input reads as it did. -/
def dateGetsSpec : ChangeSpec := { name := "dateGets", fn := fun _ => fun
  | [d] => { results := [.lit (.bool true)], args := [d] }
  | _ => none }
def dateGetsRow : OpenClaim := { program := "yteekdcdjkiclhaa", sum := "b98f5eb97a05025c02d7b5fbdba7a37a815d7ff18b93195300ad043ba53f387c", func := "greffier/greffierlaw10.DateGets", spec := "dateGets", apart := false }
def DateGetsSaid : Prop := dateGetsRow.holds Try.pinned (OpenSpec.ofChange dateGetsSpec)

/-- ITS FALSE NEIGHBOUR: 'it returns false'. Refute it at one input. -/
def dateGetsWrong : ChangeSpec := { name := "dateGets", fn := fun _ => fun
  | [d] => { results := [.lit (.bool false)], args := [d] }
  | _ => none }
def DateGetsWrongFalsely : Prop := dateGetsRow.holds Try.pinned (OpenSpec.ofChange dateGetsWrong)

/-- 'greffierlaw10.DateBack': WHATEVER THE INPUT: true; the input reads as it did. -/
def dateBackSpec : ChangeSpec := { name := "dateBack", fn := fun _ => fun
  | [d] => { results := [.lit (.bool true)], args := [d] }
  | _ => none }
def dateBackRow : OpenClaim := { program := "yteekdcdjkiclhaa", sum := "b98f5eb97a05025c02d7b5fbdba7a37a815d7ff18b93195300ad043ba53f387c", func := "greffier/greffierlaw10.DateBack", spec := "dateBack", inPlace := ["internal/abi.NoEscape"], apart := false }
def DateBackSaid : Prop := dateBackRow.holds Try.pinned (OpenSpec.ofChange dateBackSpec)

/-- ITS FALSE NEIGHBOUR: 'it returns false'. Refute it at one input. -/
def dateBackWrong : ChangeSpec := { name := "dateBack", fn := fun _ => fun
  | [d] => { results := [.lit (.bool false)], args := [d] }
  | _ => none }
def DateBackWrongFalsely : Prop := dateBackRow.holds Try.pinned (OpenSpec.ofChange dateBackWrong)

/-- 'greffierlaw10.DateOrder': WHATEVER THE INPUT: true; the input reads as it did. -/
def dateOrderSpec : ChangeSpec := { name := "dateOrder", fn := fun _ => fun
  | [d1, d2] => { results := [.lit (.bool true)], args := [d1, d2] }
  | _ => none }
def dateOrderRow : OpenClaim := { program := "yteekdcdjkiclhaa", sum := "b98f5eb97a05025c02d7b5fbdba7a37a815d7ff18b93195300ad043ba53f387c", func := "greffier/greffierlaw10.DateOrder", spec := "dateOrder", inPlace := ["internal/abi.NoEscape"], apart := false }
def DateOrderSaid : Prop := dateOrderRow.holds Try.pinned (OpenSpec.ofChange dateOrderSpec)

/-- ITS FALSE NEIGHBOUR: 'it returns false'. Refute it at one input. -/
def dateOrderWrong : ChangeSpec := { name := "dateOrder", fn := fun _ => fun
  | [d1, d2] => { results := [.lit (.bool false)], args := [d1, d2] }
  | _ => none }
def DateOrderWrongFalsely : Prop := dateOrderRow.holds Try.pinned (OpenSpec.ofChange dateOrderWrong)

/-- 'greffierlaw10.DateClock': WHATEVER THE INPUT: true; the input reads as it did. -/
def dateClockSpec : ChangeSpec := { name := "dateClock", fn := fun _ => fun
  | [d] => { results := [.lit (.bool true)], args := [d] }
  | _ => none }
def dateClockRow : OpenClaim := { program := "yteekdcdjkiclhaa", sum := "b98f5eb97a05025c02d7b5fbdba7a37a815d7ff18b93195300ad043ba53f387c", func := "greffier/greffierlaw10.DateClock", spec := "dateClock", inPlace := ["internal/abi.NoEscape"], apart := false }
def DateClockSaid : Prop := dateClockRow.holds Try.pinned (OpenSpec.ofChange dateClockSpec)

/-- ITS FALSE NEIGHBOUR: 'it returns false'. Refute it at one input. -/
def dateClockWrong : ChangeSpec := { name := "dateClock", fn := fun _ => fun
  | [d] => { results := [.lit (.bool false)], args := [d] }
  | _ => none }
def DateClockWrongFalsely : Prop := dateClockRow.holds Try.pinned (OpenSpec.ofChange dateClockWrong)

/- THE SECOND FORM. 'bulk': how many values and letters a reading holds, each counted each time it is reached (what is shared counts as often as it is met; a slice's spare places count too). A statement '..UptoSaid' is the law's where the arguments, and the package variables that the reading takes, are together of bulk at most 1048576: NARROWER than '..Said'. Prove '..Said' where nothing that the law and all that it calls make is longer than what came in: it says more and counts as full. Else prove '..UptoSaid'. A law counts once. -/
mutual
def uptoBulk {H : Type} : DataW H → Nat
  | .lit (.string bytes) => bytes.length + 1
  | .lit _ => 1
  | .nil => 1
  | .ptr d => uptoBulk d + 1
  | .slice elems spare => uptoBulkAll elems + uptoBulkAll spare + 1
  | .agg parts => uptoBulkAll parts + 1
  | .iface _ d => uptoBulk d + 1
  | .map entries => uptoBulkEntries entries + 1
  | .held _ => 1
def uptoBulkAll {H : Type} : List (DataW H) → Nat
  | [] => 0
  | d :: r => uptoBulk d + uptoBulkAll r
def uptoBulkEntries {H : Type} : List (Lit × DataW H) → Nat
  | [] => 0
  | x :: r => uptoBulkEntry x + uptoBulkEntries r
def uptoBulkEntry {H : Type} : Lit × DataW H → Nat
  | (.string bytes, d) => bytes.length + uptoBulk d + 1
  | (_, d) => uptoBulk d + 1
 end
def uptoSmall : (H : Type) → List (DataW H) → Bool := fun _ ds => decide (uptoBulkAll ds ≤ 1048576)
def OpenSpec.upto (s : _root_.Go.ChangeSpec) : _root_.Go.OpenSpec := { _root_.Go.OpenSpec.ofChange s with cond := some uptoSmall }

/-- 'greffierlaw10.DateGets', WHERE WHAT IT READS IS OF BULK AT MOST 1048576: true; the input reads as it did. -/
def dateGetsUptoRow : OpenClaim := { program := "yteekdcdjkiclhaa", sum := "b98f5eb97a05025c02d7b5fbdba7a37a815d7ff18b93195300ad043ba53f387c", func := "greffier/greffierlaw10.DateGets", spec := "dateGets", apart := false, narrowed := true }
def DateGetsUptoSaid : Prop := dateGetsUptoRow.holds Try.pinned (OpenSpec.upto dateGetsSpec)

/-- 'greffierlaw10.DateBack', WHERE WHAT IT READS IS OF BULK AT MOST 1048576: true; the input reads as it did. -/
def dateBackUptoRow : OpenClaim := { program := "yteekdcdjkiclhaa", sum := "b98f5eb97a05025c02d7b5fbdba7a37a815d7ff18b93195300ad043ba53f387c", func := "greffier/greffierlaw10.DateBack", spec := "dateBack", inPlace := ["internal/abi.NoEscape"], apart := false, narrowed := true }
def DateBackUptoSaid : Prop := dateBackUptoRow.holds Try.pinned (OpenSpec.upto dateBackSpec)

/-- 'greffierlaw10.DateOrder', WHERE WHAT IT READS IS OF BULK AT MOST 1048576: true; the input reads as it did. -/
def dateOrderUptoRow : OpenClaim := { program := "yteekdcdjkiclhaa", sum := "b98f5eb97a05025c02d7b5fbdba7a37a815d7ff18b93195300ad043ba53f387c", func := "greffier/greffierlaw10.DateOrder", spec := "dateOrder", inPlace := ["internal/abi.NoEscape"], apart := false, narrowed := true }
def DateOrderUptoSaid : Prop := dateOrderUptoRow.holds Try.pinned (OpenSpec.upto dateOrderSpec)

/-- 'greffierlaw10.DateClock', WHERE WHAT IT READS IS OF BULK AT MOST 1048576: true; the input reads as it did. -/
def dateClockUptoRow : OpenClaim := { program := "yteekdcdjkiclhaa", sum := "b98f5eb97a05025c02d7b5fbdba7a37a815d7ff18b93195300ad043ba53f387c", func := "greffier/greffierlaw10.DateClock", spec := "dateClock", inPlace := ["internal/abi.NoEscape"], apart := false, narrowed := true }
def DateClockUptoSaid : Prop := dateClockUptoRow.holds Try.pinned (OpenSpec.upto dateClockSpec)

end Rows
end Go.Proofs.Yteekdcdjkiclhaa

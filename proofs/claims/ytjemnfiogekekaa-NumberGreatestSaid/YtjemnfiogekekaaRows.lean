/-
  No cell of these rows narrows 'for every input' (looked for: loops, veiled, ifaces, maps, wideKeys, modest, calm, conditions, laid).
  DERIVED. THE GIVEN ROWS OF THIS SEAT. 5 by the template 'for every input the law returns true; each argument reads behind the call as it read before'; 0 by the template 'total and deterministic' (their statements: YtjemnfiogekekaaTotals.lean).
  GIVEN WITH THE SEED: the statements are not yours to turn. If you find one false, say at which input.
  Laid BY PROGRAM, IN A SANDBOX (cutbox-rows.mjs): the forced cells as the released guide's own fill.sh prints them over the translation 00ec1f86c4bc54ad… (all of the seat's roots in one cut). By AI agents, Wed Nov 11 2026. No macro, syntax, notation, axiom, sorry.
-/
import Derived.Test.YtjemnfiogekekaaChecked
import GoSem.Claim
import GoSem.ClaimJoined
import GoSem.ClaimMapViews
import Derived.JoinedTies
import Derived.KernelRfl
namespace Go.Proofs.Ytjemnfiogekekaa
/- THE CELL 'sum', in the pinned program and in every row, IS THE sha256 OF THE DUMP (.gsa) THAT YtjemnfiogekekaaProg.lean LOADS. Nothing in Lean hashes anything: it is a label: what it is worth is what the hold of that sum in a sandbox is worth. -/
noncomputable def Try.pinned : Pinned := { name := "ytjemnfiogekekaa", sum := "00ec1f86c4bc54ad57fed3318660fdbd84b54f75cf5006f93b870e8e1300700c", checked := Try.checked }
namespace Rows
def none {H : Type} : Left H := { results := [], args := [] }

/-- 'greffierlaw09.NumberGets': WHATEVER THE INPUT: true; the input reads as it did. -/
def numberGetsSpec : ChangeSpec := { name := "numberGets", fn := fun _ => fun
  | [d] => { results := [.lit (.bool true)], args := [d] }
  | _ => none }
def numberGetsRow : OpenClaim := { program := "ytjemnfiogekekaa", sum := "00ec1f86c4bc54ad57fed3318660fdbd84b54f75cf5006f93b870e8e1300700c", func := "greffier/greffierlaw09.NumberGets", spec := "numberGets", inPlace := ["math.Float64frombits", "internal/bytealg.IndexByte", "internal/bytealg.Index", "math.Float64bits"], named := ["internal/bytealg.MaxLen"], apart := false }
def NumberGetsSaid : Prop := numberGetsRow.holds Try.pinned (OpenSpec.ofChange numberGetsSpec)

/-- ITS FALSE NEIGHBOUR: 'it returns false'. Refute it at one input. -/
def numberGetsWrong : ChangeSpec := { name := "numberGets", fn := fun _ => fun
  | [d] => { results := [.lit (.bool false)], args := [d] }
  | _ => none }
def NumberGetsWrongFalsely : Prop := numberGetsRow.holds Try.pinned (OpenSpec.ofChange numberGetsWrong)

/-- 'greffierlaw09.NumberNoughts': WHATEVER THE INPUT: true; the input reads as it did. -/
def numberNoughtsSpec : ChangeSpec := { name := "numberNoughts", fn := fun _ => fun
  | [d1, d2] => { results := [.lit (.bool true)], args := [d1, d2] }
  | _ => none }
def numberNoughtsRow : OpenClaim := { program := "ytjemnfiogekekaa", sum := "00ec1f86c4bc54ad57fed3318660fdbd84b54f75cf5006f93b870e8e1300700c", func := "greffier/greffierlaw09.NumberNoughts", spec := "numberNoughts", inPlace := ["math.Float64frombits", "internal/bytealg.IndexByte", "internal/bytealg.Index", "math.Float64bits"], named := ["internal/bytealg.MaxLen"], apart := false }
def NumberNoughtsSaid : Prop := numberNoughtsRow.holds Try.pinned (OpenSpec.ofChange numberNoughtsSpec)

/-- ITS FALSE NEIGHBOUR: 'it returns false'. Refute it at one input. -/
def numberNoughtsWrong : ChangeSpec := { name := "numberNoughts", fn := fun _ => fun
  | [d1, d2] => { results := [.lit (.bool false)], args := [d1, d2] }
  | _ => none }
def NumberNoughtsWrongFalsely : Prop := numberNoughtsRow.holds Try.pinned (OpenSpec.ofChange numberNoughtsWrong)

/-- 'greffierlaw09.NumberMinus': WHATEVER THE INPUT: true; the input reads as it did. -/
def numberMinusSpec : ChangeSpec := { name := "numberMinus", fn := fun _ => fun
  | [d] => { results := [.lit (.bool true)], args := [d] }
  | _ => none }
def numberMinusRow : OpenClaim := { program := "ytjemnfiogekekaa", sum := "00ec1f86c4bc54ad57fed3318660fdbd84b54f75cf5006f93b870e8e1300700c", func := "greffier/greffierlaw09.NumberMinus", spec := "numberMinus", inPlace := ["math.Float64frombits", "internal/bytealg.IndexByte", "internal/bytealg.Index", "math.Float64bits"], named := ["internal/bytealg.MaxLen"], apart := false }
def NumberMinusSaid : Prop := numberMinusRow.holds Try.pinned (OpenSpec.ofChange numberMinusSpec)

/-- ITS FALSE NEIGHBOUR: 'it returns false'. Refute it at one input. -/
def numberMinusWrong : ChangeSpec := { name := "numberMinus", fn := fun _ => fun
  | [d] => { results := [.lit (.bool false)], args := [d] }
  | _ => none }
def NumberMinusWrongFalsely : Prop := numberMinusRow.holds Try.pinned (OpenSpec.ofChange numberMinusWrong)

/-- 'greffierlaw09.NumberCompares': WHATEVER THE INPUT: true; the input reads as it did. -/
def numberComparesSpec : ChangeSpec := { name := "numberCompares", fn := fun _ => fun
  | [d1, d2] => { results := [.lit (.bool true)], args := [d1, d2] }
  | _ => none }
def numberComparesRow : OpenClaim := { program := "ytjemnfiogekekaa", sum := "00ec1f86c4bc54ad57fed3318660fdbd84b54f75cf5006f93b870e8e1300700c", func := "greffier/greffierlaw09.NumberCompares", spec := "numberCompares", inPlace := ["math.Float64frombits", "internal/bytealg.IndexByte", "internal/bytealg.Index", "math.Float64bits"], named := ["internal/bytealg.MaxLen"], apart := false }
def NumberComparesSaid : Prop := numberComparesRow.holds Try.pinned (OpenSpec.ofChange numberComparesSpec)

/-- ITS FALSE NEIGHBOUR: 'it returns false'. Refute it at one input. -/
def numberComparesWrong : ChangeSpec := { name := "numberCompares", fn := fun _ => fun
  | [d1, d2] => { results := [.lit (.bool false)], args := [d1, d2] }
  | _ => none }
def NumberComparesWrongFalsely : Prop := numberComparesRow.holds Try.pinned (OpenSpec.ofChange numberComparesWrong)

/-- 'greffierlaw09.NumberGreatest': WHATEVER THE INPUT: true; the input reads as it did. -/
def numberGreatestSpec : ChangeSpec := { name := "numberGreatest", fn := fun _ => fun
  | [d] => { results := [.lit (.bool true)], args := [d] }
  | _ => none }
def numberGreatestRow : OpenClaim := { program := "ytjemnfiogekekaa", sum := "00ec1f86c4bc54ad57fed3318660fdbd84b54f75cf5006f93b870e8e1300700c", func := "greffier/greffierlaw09.NumberGreatest", spec := "numberGreatest", inPlace := ["math.Float64frombits", "internal/bytealg.IndexByte", "internal/bytealg.Index", "math.Float64bits"], named := ["internal/bytealg.MaxLen"], apart := false }
def NumberGreatestSaid : Prop := numberGreatestRow.holds Try.pinned (OpenSpec.ofChange numberGreatestSpec)

/-- ITS FALSE NEIGHBOUR: 'it returns false'. Refute it at one input. -/
def numberGreatestWrong : ChangeSpec := { name := "numberGreatest", fn := fun _ => fun
  | [d] => { results := [.lit (.bool false)], args := [d] }
  | _ => none }
def NumberGreatestWrongFalsely : Prop := numberGreatestRow.holds Try.pinned (OpenSpec.ofChange numberGreatestWrong)

/- THE SECOND FORM. 'bulk': how many values and letters a reading holds, each counted each time it is reached (what is shared counts as often as it is met; a slice's spare places count too). A statement '..UptoSaid' is the law's where the arguments, and the package variables that the reading takes, are together of bulk at most 1048576: NARROWER than '..Said'. Prove '..Said' where nothing that the law and all that it calls make is longer than what came in: it says more and counts as full. Else prove '..UptoSaid'. A law counts once. -/
mutual
def uptoBulk {H : Type} : DataW H → Nat
  | .lit (.string bytes) => bytes.length + 1
  | .lit _ => 1
  | .nil => 1
  | .ptr d => uptoBulk d + 1
  | .slice elems spare => uptoBulkAll elems + uptoBulkAll spare + 1
  | .agg parts => uptoBulkAll parts + 1
  | .iface _ d => uptoBulk d + 1
  | .map entries => uptoBulkEntries entries + 1
  | .held _ => 1
def uptoBulkAll {H : Type} : List (DataW H) → Nat
  | [] => 0
  | d :: r => uptoBulk d + uptoBulkAll r
def uptoBulkEntries {H : Type} : List (Lit × DataW H) → Nat
  | [] => 0
  | x :: r => uptoBulkEntry x + uptoBulkEntries r
def uptoBulkEntry {H : Type} : Lit × DataW H → Nat
  | (.string bytes, d) => bytes.length + uptoBulk d + 1
  | (_, d) => uptoBulk d + 1
 end
def uptoSmall : (H : Type) → List (DataW H) → Bool := fun _ ds => decide (uptoBulkAll ds ≤ 1048576)
def OpenSpec.upto (s : _root_.Go.ChangeSpec) : _root_.Go.OpenSpec := { _root_.Go.OpenSpec.ofChange s with cond := some uptoSmall }

/-- 'greffierlaw09.NumberGets', WHERE WHAT IT READS IS OF BULK AT MOST 1048576: true; the input reads as it did. -/
def numberGetsUptoRow : OpenClaim := { program := "ytjemnfiogekekaa", sum := "00ec1f86c4bc54ad57fed3318660fdbd84b54f75cf5006f93b870e8e1300700c", func := "greffier/greffierlaw09.NumberGets", spec := "numberGets", inPlace := ["math.Float64frombits", "internal/bytealg.IndexByte", "internal/bytealg.Index", "math.Float64bits"], named := ["internal/bytealg.MaxLen"], apart := false, narrowed := true }
def NumberGetsUptoSaid : Prop := numberGetsUptoRow.holds Try.pinned (OpenSpec.upto numberGetsSpec)

/-- 'greffierlaw09.NumberNoughts', WHERE WHAT IT READS IS OF BULK AT MOST 1048576: true; the input reads as it did. -/
def numberNoughtsUptoRow : OpenClaim := { program := "ytjemnfiogekekaa", sum := "00ec1f86c4bc54ad57fed3318660fdbd84b54f75cf5006f93b870e8e1300700c", func := "greffier/greffierlaw09.NumberNoughts", spec := "numberNoughts", inPlace := ["math.Float64frombits", "internal/bytealg.IndexByte", "internal/bytealg.Index", "math.Float64bits"], named := ["internal/bytealg.MaxLen"], apart := false, narrowed := true }
def NumberNoughtsUptoSaid : Prop := numberNoughtsUptoRow.holds Try.pinned (OpenSpec.upto numberNoughtsSpec)

/-- 'greffierlaw09.NumberMinus', WHERE WHAT IT READS IS OF BULK AT MOST 1048576: true; the input reads as it did. -/
def numberMinusUptoRow : OpenClaim := { program := "ytjemnfiogekekaa", sum := "00ec1f86c4bc54ad57fed3318660fdbd84b54f75cf5006f93b870e8e1300700c", func := "greffier/greffierlaw09.NumberMinus", spec := "numberMinus", inPlace := ["math.Float64frombits", "internal/bytealg.IndexByte", "internal/bytealg.Index", "math.Float64bits"], named := ["internal/bytealg.MaxLen"], apart := false, narrowed := true }
def NumberMinusUptoSaid : Prop := numberMinusUptoRow.holds Try.pinned (OpenSpec.upto numberMinusSpec)

/-- 'greffierlaw09.NumberCompares', WHERE WHAT IT READS IS OF BULK AT MOST 1048576: true; the input reads as it did. -/
def numberComparesUptoRow : OpenClaim := { program := "ytjemnfiogekekaa", sum := "00ec1f86c4bc54ad57fed3318660fdbd84b54f75cf5006f93b870e8e1300700c", func := "greffier/greffierlaw09.NumberCompares", spec := "numberCompares", inPlace := ["math.Float64frombits", "internal/bytealg.IndexByte", "internal/bytealg.Index", "math.Float64bits"], named := ["internal/bytealg.MaxLen"], apart := false, narrowed := true }
def NumberComparesUptoSaid : Prop := numberComparesUptoRow.holds Try.pinned (OpenSpec.upto numberComparesSpec)

/-- 'greffierlaw09.NumberGreatest', WHERE WHAT IT READS IS OF BULK AT MOST 1048576: true; the input reads as it did. -/
def numberGreatestUptoRow : OpenClaim := { program := "ytjemnfiogekekaa", sum := "00ec1f86c4bc54ad57fed3318660fdbd84b54f75cf5006f93b870e8e1300700c", func := "greffier/greffierlaw09.NumberGreatest", spec := "numberGreatest", inPlace := ["math.Float64frombits", "internal/bytealg.IndexByte", "internal/bytealg.Index", "math.Float64bits"], named := ["internal/bytealg.MaxLen"], apart := false, narrowed := true }
def NumberGreatestUptoSaid : Prop := numberGreatestUptoRow.holds Try.pinned (OpenSpec.upto numberGreatestSpec)

end Rows
end Go.Proofs.Ytjemnfiogekekaa

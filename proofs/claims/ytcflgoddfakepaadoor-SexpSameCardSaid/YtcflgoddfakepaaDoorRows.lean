/-
  NARROWER THAN 'FOR EVERY INPUT', by the rows' own cells (each row's printed sentence says how): SexpOne: loops, laid · SexpLists: loops, laid · SexpSame: loops, laid · SexpWrites: loops, laid · SexpReads: laid · SexpCuts: loops, laid · SexpMore: loops, laid.
  DERIVED. THE GIVEN ROWS OF THIS SEAT. 7 by the template 'for every input the law returns true; each argument reads behind the call as it read before'; 0 by the template 'total and deterministic' (their statements: YtcflgoddfakepaaDoorTotals.lean).
  GIVEN WITH THE SEED: the statements are not yours to turn. If you find one false, say at which input.
  Laid BY PROGRAM, IN A SANDBOX (cutbox-rows.mjs): the forced cells as the released guide's own fill.sh prints them over the translation 2c4810766a43b4ff… (all of the seat's roots in one cut). By AI agents, Wed Nov 11 2026. No macro, syntax, notation, axiom, sorry.
-/
import Derived.Test.YtcflgoddfakepaaDoorChecked
import GoSem.Claim
import GoSem.ClaimJoined
import GoSem.ClaimMapViews
import Derived.JoinedTies
import Derived.KernelRfl
namespace Go.Proofs.YtcflgoddfakepaaDoor
/- THE CELL 'sum', in the pinned program and in every row, IS THE sha256 OF THE DUMP (.gsa) THAT YtcflgoddfakepaaDoorProg.lean LOADS. Nothing in Lean hashes anything: it is a label: what it is worth is what the hold of that sum in a sandbox is worth. -/
noncomputable def Tryd.pinned : Pinned := { name := "ytcflgoddfakepaadoor", sum := "2c4810766a43b4ff826f84402b2802c7c1e6b7af23bb97d981f0843f08fc5386", checked := Tryd.checked }
namespace Rows
def none {H : Type} : Left H := { results := [], args := [] }

/- WHAT THE LISTED PACKAGE-LEVEL VARIABLES READ AS WHEN THE CALL BEGINS. Each datum BY PROGRAM (the guide's laid-datum.mjs) off the statement by which the dump's own 'gosem.cut.vars' lays the variable. In a bare row this is a premise. The card (YtcflgoddfakepaaDoorCards.lean) ties it to the program's text. -/
def laid_math_bits_deBruijn32tab {H : Type} : DataW H := .agg [.lit (.int .u8 0), .lit (.int .u8 1), .lit (.int .u8 28), .lit (.int .u8 2), .lit (.int .u8 29), .lit (.int .u8 14), .lit (.int .u8 24), .lit (.int .u8 3), .lit (.int .u8 30), .lit (.int .u8 22), .lit (.int .u8 20), .lit (.int .u8 15), .lit (.int .u8 25), .lit (.int .u8 17), .lit (.int .u8 4), .lit (.int .u8 8), .lit (.int .u8 31), .lit (.int .u8 27), .lit (.int .u8 13), .lit (.int .u8 23), .lit (.int .u8 21), .lit (.int .u8 19), .lit (.int .u8 16), .lit (.int .u8 7), .lit (.int .u8 26), .lit (.int .u8 12), .lit (.int .u8 18), .lit (.int .u8 6), .lit (.int .u8 11), .lit (.int .u8 5), .lit (.int .u8 10), .lit (.int .u8 9)]
def laid_math_bits_deBruijn64tab {H : Type} : DataW H := .agg [.lit (.int .u8 0), .lit (.int .u8 1), .lit (.int .u8 56), .lit (.int .u8 2), .lit (.int .u8 57), .lit (.int .u8 49), .lit (.int .u8 28), .lit (.int .u8 3), .lit (.int .u8 61), .lit (.int .u8 58), .lit (.int .u8 42), .lit (.int .u8 50), .lit (.int .u8 38), .lit (.int .u8 29), .lit (.int .u8 17), .lit (.int .u8 4), .lit (.int .u8 62), .lit (.int .u8 47), .lit (.int .u8 59), .lit (.int .u8 36), .lit (.int .u8 45), .lit (.int .u8 43), .lit (.int .u8 51), .lit (.int .u8 22), .lit (.int .u8 53), .lit (.int .u8 39), .lit (.int .u8 33), .lit (.int .u8 30), .lit (.int .u8 24), .lit (.int .u8 18), .lit (.int .u8 12), .lit (.int .u8 5), .lit (.int .u8 63), .lit (.int .u8 55), .lit (.int .u8 48), .lit (.int .u8 27), .lit (.int .u8 60), .lit (.int .u8 41), .lit (.int .u8 37), .lit (.int .u8 16), .lit (.int .u8 46), .lit (.int .u8 35), .lit (.int .u8 44), .lit (.int .u8 21), .lit (.int .u8 52), .lit (.int .u8 32), .lit (.int .u8 23), .lit (.int .u8 11), .lit (.int .u8 54), .lit (.int .u8 26), .lit (.int .u8 40), .lit (.int .u8 15), .lit (.int .u8 34), .lit (.int .u8 20), .lit (.int .u8 31), .lit (.int .u8 10), .lit (.int .u8 25), .lit (.int .u8 14), .lit (.int .u8 19), .lit (.int .u8 9), .lit (.int .u8 13), .lit (.int .u8 8), .lit (.int .u8 7), .lit (.int .u8 6)]
def laid_internal_strconv_uint64pow10 {H : Type} : DataW H := .agg [.lit (.int .u64 1), .lit (.int .u64 10), .lit (.int .u64 100), .lit (.int .u64 1000), .lit (.int .u64 10000), .lit (.int .u64 100000), .lit (.int .u64 1000000), .lit (.int .u64 10000000), .lit (.int .u64 100000000), .lit (.int .u64 1000000000), .lit (.int .u64 10000000000), .lit (.int .u64 100000000000), .lit (.int .u64 1000000000000), .lit (.int .u64 10000000000000), .lit (.int .u64 100000000000000), .lit (.int .u64 1000000000000000), .lit (.int .u64 10000000000000000), .lit (.int .u64 100000000000000000), .lit (.int .u64 1000000000000000000), .lit (.int .u64 10000000000000000000)]

/-- 'greffierlaw02.SexpOne': WHATEVER THE INPUT: true; the input reads as it did. -/
def sexpOneSpec : ChangeSpec := { name := "sexpOne", fn := fun _ => fun
  | [d1, d2] => { results := [.lit (.bool true)], args := [d1, d2] }
  | _ => none }
def sexpOneRow : OpenClaim := { program := "ytcflgoddfakepaadoor", sum := "2c4810766a43b4ff826f84402b2802c7c1e6b7af23bb97d981f0843f08fc5386", func := "greffier/greffierlaw02.SexpOne", spec := "sexpOne", recurses := true, named := ["internal/strconv.uint64pow10", "math/bits.deBruijn32tab", "math/bits.deBruijn64tab"], loops := true, apart := false, laid := [("math/bits.deBruijn32tab", laid_math_bits_deBruijn32tab), ("math/bits.deBruijn64tab", laid_math_bits_deBruijn64tab), ("internal/strconv.uint64pow10", laid_internal_strconv_uint64pow10)] }
def SexpOneSaid : Prop := sexpOneRow.holds Tryd.pinned (OpenSpec.ofChange sexpOneSpec)

/-- ITS FALSE NEIGHBOUR: 'it returns false'. Refute it at one input. -/
def sexpOneWrong : ChangeSpec := { name := "sexpOne", fn := fun _ => fun
  | [d1, d2] => { results := [.lit (.bool false)], args := [d1, d2] }
  | _ => none }
def SexpOneWrongFalsely : Prop := sexpOneRow.holds Tryd.pinned (OpenSpec.ofChange sexpOneWrong)

/-- 'greffierlaw02.SexpLists': WHATEVER THE INPUT: true; the input reads as it did. -/
def sexpListsSpec : ChangeSpec := { name := "sexpLists", fn := fun _ => fun
  | [d] => { results := [.lit (.bool true)], args := [d] }
  | _ => none }
def sexpListsRow : OpenClaim := { program := "ytcflgoddfakepaadoor", sum := "2c4810766a43b4ff826f84402b2802c7c1e6b7af23bb97d981f0843f08fc5386", func := "greffier/greffierlaw02.SexpLists", spec := "sexpLists", recurses := true, named := ["internal/strconv.uint64pow10", "math/bits.deBruijn32tab", "math/bits.deBruijn64tab"], loops := true, apart := false, laid := [("math/bits.deBruijn32tab", laid_math_bits_deBruijn32tab), ("math/bits.deBruijn64tab", laid_math_bits_deBruijn64tab), ("internal/strconv.uint64pow10", laid_internal_strconv_uint64pow10)] }
def SexpListsSaid : Prop := sexpListsRow.holds Tryd.pinned (OpenSpec.ofChange sexpListsSpec)

/-- ITS FALSE NEIGHBOUR: 'it returns false'. Refute it at one input. -/
def sexpListsWrong : ChangeSpec := { name := "sexpLists", fn := fun _ => fun
  | [d] => { results := [.lit (.bool false)], args := [d] }
  | _ => none }
def SexpListsWrongFalsely : Prop := sexpListsRow.holds Tryd.pinned (OpenSpec.ofChange sexpListsWrong)

/-- 'greffierlaw02.SexpSame': WHATEVER THE INPUT: true; the input reads as it did. -/
def sexpSameSpec : ChangeSpec := { name := "sexpSame", fn := fun _ => fun
  | [d1, d2] => { results := [.lit (.bool true)], args := [d1, d2] }
  | _ => none }
def sexpSameRow : OpenClaim := { program := "ytcflgoddfakepaadoor", sum := "2c4810766a43b4ff826f84402b2802c7c1e6b7af23bb97d981f0843f08fc5386", func := "greffier/greffierlaw02.SexpSame", spec := "sexpSame", unfollowed := true, recurses := true, named := ["internal/strconv.uint64pow10", "math/bits.deBruijn32tab", "math/bits.deBruijn64tab"], loops := true, apart := false, laid := [("math/bits.deBruijn32tab", laid_math_bits_deBruijn32tab), ("math/bits.deBruijn64tab", laid_math_bits_deBruijn64tab), ("internal/strconv.uint64pow10", laid_internal_strconv_uint64pow10)] }
def SexpSameSaid : Prop := sexpSameRow.holds Tryd.pinned (OpenSpec.ofChange sexpSameSpec)

/-- ITS FALSE NEIGHBOUR: 'it returns false'. Refute it at one input. -/
def sexpSameWrong : ChangeSpec := { name := "sexpSame", fn := fun _ => fun
  | [d1, d2] => { results := [.lit (.bool false)], args := [d1, d2] }
  | _ => none }
def SexpSameWrongFalsely : Prop := sexpSameRow.holds Tryd.pinned (OpenSpec.ofChange sexpSameWrong)

/-- 'greffierlaw02.SexpWrites': WHATEVER THE INPUT: true; the input reads as it did. -/
def sexpWritesSpec : ChangeSpec := { name := "sexpWrites", fn := fun _ => fun
  | [d] => { results := [.lit (.bool true)], args := [d] }
  | _ => none }
def sexpWritesRow : OpenClaim := { program := "ytcflgoddfakepaadoor", sum := "2c4810766a43b4ff826f84402b2802c7c1e6b7af23bb97d981f0843f08fc5386", func := "greffier/greffierlaw02.SexpWrites", spec := "sexpWrites", unfollowed := true, recurses := true, named := ["internal/strconv.uint64pow10", "math/bits.deBruijn32tab", "math/bits.deBruijn64tab"], loops := true, apart := false, laid := [("math/bits.deBruijn32tab", laid_math_bits_deBruijn32tab), ("math/bits.deBruijn64tab", laid_math_bits_deBruijn64tab), ("internal/strconv.uint64pow10", laid_internal_strconv_uint64pow10)] }
def SexpWritesSaid : Prop := sexpWritesRow.holds Tryd.pinned (OpenSpec.ofChange sexpWritesSpec)

/-- ITS FALSE NEIGHBOUR: 'it returns false'. Refute it at one input. -/
def sexpWritesWrong : ChangeSpec := { name := "sexpWrites", fn := fun _ => fun
  | [d] => { results := [.lit (.bool false)], args := [d] }
  | _ => none }
def SexpWritesWrongFalsely : Prop := sexpWritesRow.holds Tryd.pinned (OpenSpec.ofChange sexpWritesWrong)

/-- 'greffierlaw02.SexpReads': WHATEVER THE INPUT: true; the input reads as it did. -/
def sexpReadsSpec : ChangeSpec := { name := "sexpReads", fn := fun _ => fun
  | [d] => { results := [.lit (.bool true)], args := [d] }
  | _ => none }
def sexpReadsRow : OpenClaim := { program := "ytcflgoddfakepaadoor", sum := "2c4810766a43b4ff826f84402b2802c7c1e6b7af23bb97d981f0843f08fc5386", func := "greffier/greffierlaw02.SexpReads", spec := "sexpReads", unfollowed := true, recurses := true, named := ["internal/strconv.uint64pow10", "math/bits.deBruijn32tab", "math/bits.deBruijn64tab"], apart := false, laid := [("math/bits.deBruijn32tab", laid_math_bits_deBruijn32tab), ("math/bits.deBruijn64tab", laid_math_bits_deBruijn64tab), ("internal/strconv.uint64pow10", laid_internal_strconv_uint64pow10)] }
def SexpReadsSaid : Prop := sexpReadsRow.holds Tryd.pinned (OpenSpec.ofChange sexpReadsSpec)

/-- ITS FALSE NEIGHBOUR: 'it returns false'. Refute it at one input. -/
def sexpReadsWrong : ChangeSpec := { name := "sexpReads", fn := fun _ => fun
  | [d] => { results := [.lit (.bool false)], args := [d] }
  | _ => none }
def SexpReadsWrongFalsely : Prop := sexpReadsRow.holds Tryd.pinned (OpenSpec.ofChange sexpReadsWrong)

/-- 'greffierlaw02.SexpCuts': WHATEVER THE INPUT: true; the input reads as it did. -/
def sexpCutsSpec : ChangeSpec := { name := "sexpCuts", fn := fun _ => fun
  | [d1, d2] => { results := [.lit (.bool true)], args := [d1, d2] }
  | _ => none }
def sexpCutsRow : OpenClaim := { program := "ytcflgoddfakepaadoor", sum := "2c4810766a43b4ff826f84402b2802c7c1e6b7af23bb97d981f0843f08fc5386", func := "greffier/greffierlaw02.SexpCuts", spec := "sexpCuts", unfollowed := true, recurses := true, named := ["internal/strconv.uint64pow10", "math/bits.deBruijn32tab", "math/bits.deBruijn64tab"], loops := true, apart := false, laid := [("math/bits.deBruijn32tab", laid_math_bits_deBruijn32tab), ("math/bits.deBruijn64tab", laid_math_bits_deBruijn64tab), ("internal/strconv.uint64pow10", laid_internal_strconv_uint64pow10)] }
def SexpCutsSaid : Prop := sexpCutsRow.holds Tryd.pinned (OpenSpec.ofChange sexpCutsSpec)

/-- ITS FALSE NEIGHBOUR: 'it returns false'. Refute it at one input. -/
def sexpCutsWrong : ChangeSpec := { name := "sexpCuts", fn := fun _ => fun
  | [d1, d2] => { results := [.lit (.bool false)], args := [d1, d2] }
  | _ => none }
def SexpCutsWrongFalsely : Prop := sexpCutsRow.holds Tryd.pinned (OpenSpec.ofChange sexpCutsWrong)

/-- 'greffierlaw02.SexpMore': WHATEVER THE INPUT: true; the input reads as it did. -/
def sexpMoreSpec : ChangeSpec := { name := "sexpMore", fn := fun _ => fun
  | [d1, d2] => { results := [.lit (.bool true)], args := [d1, d2] }
  | _ => none }
def sexpMoreRow : OpenClaim := { program := "ytcflgoddfakepaadoor", sum := "2c4810766a43b4ff826f84402b2802c7c1e6b7af23bb97d981f0843f08fc5386", func := "greffier/greffierlaw02.SexpMore", spec := "sexpMore", unfollowed := true, recurses := true, named := ["internal/strconv.uint64pow10", "math/bits.deBruijn32tab", "math/bits.deBruijn64tab"], loops := true, apart := false, laid := [("math/bits.deBruijn32tab", laid_math_bits_deBruijn32tab), ("math/bits.deBruijn64tab", laid_math_bits_deBruijn64tab), ("internal/strconv.uint64pow10", laid_internal_strconv_uint64pow10)] }
def SexpMoreSaid : Prop := sexpMoreRow.holds Tryd.pinned (OpenSpec.ofChange sexpMoreSpec)

/-- ITS FALSE NEIGHBOUR: 'it returns false'. Refute it at one input. -/
def sexpMoreWrong : ChangeSpec := { name := "sexpMore", fn := fun _ => fun
  | [d1, d2] => { results := [.lit (.bool false)], args := [d1, d2] }
  | _ => none }
def SexpMoreWrongFalsely : Prop := sexpMoreRow.holds Tryd.pinned (OpenSpec.ofChange sexpMoreWrong)

/- THE SECOND FORM. 'bulk': how many values and letters a reading holds, each counted each time it is reached (what is shared counts as often as it is met; a slice's spare places count too). A statement '..UptoSaid' is the law's where the arguments, and the package variables that the reading takes, are together of bulk at most 1048576: NARROWER than '..Said'. Prove '..Said' where nothing that the law and all that it calls make is longer than what came in: it says more and counts as full. Else prove '..UptoSaid'. A law counts once. -/
mutual
def uptoBulk {H : Type} : DataW H → Nat
  | .lit (.string bytes) => bytes.length + 1
  | .lit _ => 1
  | .nil => 1
  | .ptr d => uptoBulk d + 1
  | .slice elems spare => uptoBulkAll elems + uptoBulkAll spare + 1
  | .agg parts => uptoBulkAll parts + 1
  | .iface _ d => uptoBulk d + 1
  | .map entries => uptoBulkEntries entries + 1
  | .held _ => 1
def uptoBulkAll {H : Type} : List (DataW H) → Nat
  | [] => 0
  | d :: r => uptoBulk d + uptoBulkAll r
def uptoBulkEntries {H : Type} : List (Lit × DataW H) → Nat
  | [] => 0
  | x :: r => uptoBulkEntry x + uptoBulkEntries r
def uptoBulkEntry {H : Type} : Lit × DataW H → Nat
  | (.string bytes, d) => bytes.length + uptoBulk d + 1
  | (_, d) => uptoBulk d + 1
 end
def uptoSmall : (H : Type) → List (DataW H) → Bool := fun _ ds => decide (uptoBulkAll ds ≤ 1048576)
def OpenSpec.upto (s : _root_.Go.ChangeSpec) : _root_.Go.OpenSpec := { _root_.Go.OpenSpec.ofChange s with cond := some uptoSmall }

/-- 'greffierlaw02.SexpOne', WHERE WHAT IT READS IS OF BULK AT MOST 1048576: true; the input reads as it did. -/
def sexpOneUptoRow : OpenClaim := { program := "ytcflgoddfakepaadoor", sum := "2c4810766a43b4ff826f84402b2802c7c1e6b7af23bb97d981f0843f08fc5386", func := "greffier/greffierlaw02.SexpOne", spec := "sexpOne", recurses := true, named := ["internal/strconv.uint64pow10", "math/bits.deBruijn32tab", "math/bits.deBruijn64tab"], loops := true, apart := false, laid := [("math/bits.deBruijn32tab", laid_math_bits_deBruijn32tab), ("math/bits.deBruijn64tab", laid_math_bits_deBruijn64tab), ("internal/strconv.uint64pow10", laid_internal_strconv_uint64pow10)], narrowed := true }
def SexpOneUptoSaid : Prop := sexpOneUptoRow.holds Tryd.pinned (OpenSpec.upto sexpOneSpec)

/-- 'greffierlaw02.SexpLists', WHERE WHAT IT READS IS OF BULK AT MOST 1048576: true; the input reads as it did. -/
def sexpListsUptoRow : OpenClaim := { program := "ytcflgoddfakepaadoor", sum := "2c4810766a43b4ff826f84402b2802c7c1e6b7af23bb97d981f0843f08fc5386", func := "greffier/greffierlaw02.SexpLists", spec := "sexpLists", recurses := true, named := ["internal/strconv.uint64pow10", "math/bits.deBruijn32tab", "math/bits.deBruijn64tab"], loops := true, apart := false, laid := [("math/bits.deBruijn32tab", laid_math_bits_deBruijn32tab), ("math/bits.deBruijn64tab", laid_math_bits_deBruijn64tab), ("internal/strconv.uint64pow10", laid_internal_strconv_uint64pow10)], narrowed := true }
def SexpListsUptoSaid : Prop := sexpListsUptoRow.holds Tryd.pinned (OpenSpec.upto sexpListsSpec)

/-- 'greffierlaw02.SexpSame', WHERE WHAT IT READS IS OF BULK AT MOST 1048576: true; the input reads as it did. -/
def sexpSameUptoRow : OpenClaim := { program := "ytcflgoddfakepaadoor", sum := "2c4810766a43b4ff826f84402b2802c7c1e6b7af23bb97d981f0843f08fc5386", func := "greffier/greffierlaw02.SexpSame", spec := "sexpSame", unfollowed := true, recurses := true, named := ["internal/strconv.uint64pow10", "math/bits.deBruijn32tab", "math/bits.deBruijn64tab"], loops := true, apart := false, laid := [("math/bits.deBruijn32tab", laid_math_bits_deBruijn32tab), ("math/bits.deBruijn64tab", laid_math_bits_deBruijn64tab), ("internal/strconv.uint64pow10", laid_internal_strconv_uint64pow10)], narrowed := true }
def SexpSameUptoSaid : Prop := sexpSameUptoRow.holds Tryd.pinned (OpenSpec.upto sexpSameSpec)

/-- 'greffierlaw02.SexpWrites', WHERE WHAT IT READS IS OF BULK AT MOST 1048576: true; the input reads as it did. -/
def sexpWritesUptoRow : OpenClaim := { program := "ytcflgoddfakepaadoor", sum := "2c4810766a43b4ff826f84402b2802c7c1e6b7af23bb97d981f0843f08fc5386", func := "greffier/greffierlaw02.SexpWrites", spec := "sexpWrites", unfollowed := true, recurses := true, named := ["internal/strconv.uint64pow10", "math/bits.deBruijn32tab", "math/bits.deBruijn64tab"], loops := true, apart := false, laid := [("math/bits.deBruijn32tab", laid_math_bits_deBruijn32tab), ("math/bits.deBruijn64tab", laid_math_bits_deBruijn64tab), ("internal/strconv.uint64pow10", laid_internal_strconv_uint64pow10)], narrowed := true }
def SexpWritesUptoSaid : Prop := sexpWritesUptoRow.holds Tryd.pinned (OpenSpec.upto sexpWritesSpec)

/-- 'greffierlaw02.SexpReads', WHERE WHAT IT READS IS OF BULK AT MOST 1048576: true; the input reads as it did. -/
def sexpReadsUptoRow : OpenClaim := { program := "ytcflgoddfakepaadoor", sum := "2c4810766a43b4ff826f84402b2802c7c1e6b7af23bb97d981f0843f08fc5386", func := "greffier/greffierlaw02.SexpReads", spec := "sexpReads", unfollowed := true, recurses := true, named := ["internal/strconv.uint64pow10", "math/bits.deBruijn32tab", "math/bits.deBruijn64tab"], apart := false, laid := [("math/bits.deBruijn32tab", laid_math_bits_deBruijn32tab), ("math/bits.deBruijn64tab", laid_math_bits_deBruijn64tab), ("internal/strconv.uint64pow10", laid_internal_strconv_uint64pow10)], narrowed := true }
def SexpReadsUptoSaid : Prop := sexpReadsUptoRow.holds Tryd.pinned (OpenSpec.upto sexpReadsSpec)

/-- 'greffierlaw02.SexpCuts', WHERE WHAT IT READS IS OF BULK AT MOST 1048576: true; the input reads as it did. -/
def sexpCutsUptoRow : OpenClaim := { program := "ytcflgoddfakepaadoor", sum := "2c4810766a43b4ff826f84402b2802c7c1e6b7af23bb97d981f0843f08fc5386", func := "greffier/greffierlaw02.SexpCuts", spec := "sexpCuts", unfollowed := true, recurses := true, named := ["internal/strconv.uint64pow10", "math/bits.deBruijn32tab", "math/bits.deBruijn64tab"], loops := true, apart := false, laid := [("math/bits.deBruijn32tab", laid_math_bits_deBruijn32tab), ("math/bits.deBruijn64tab", laid_math_bits_deBruijn64tab), ("internal/strconv.uint64pow10", laid_internal_strconv_uint64pow10)], narrowed := true }
def SexpCutsUptoSaid : Prop := sexpCutsUptoRow.holds Tryd.pinned (OpenSpec.upto sexpCutsSpec)

/-- 'greffierlaw02.SexpMore', WHERE WHAT IT READS IS OF BULK AT MOST 1048576: true; the input reads as it did. -/
def sexpMoreUptoRow : OpenClaim := { program := "ytcflgoddfakepaadoor", sum := "2c4810766a43b4ff826f84402b2802c7c1e6b7af23bb97d981f0843f08fc5386", func := "greffier/greffierlaw02.SexpMore", spec := "sexpMore", unfollowed := true, recurses := true, named := ["internal/strconv.uint64pow10", "math/bits.deBruijn32tab", "math/bits.deBruijn64tab"], loops := true, apart := false, laid := [("math/bits.deBruijn32tab", laid_math_bits_deBruijn32tab), ("math/bits.deBruijn64tab", laid_math_bits_deBruijn64tab), ("internal/strconv.uint64pow10", laid_internal_strconv_uint64pow10)], narrowed := true }
def SexpMoreUptoSaid : Prop := sexpMoreUptoRow.holds Tryd.pinned (OpenSpec.upto sexpMoreSpec)

end Rows
end Go.Proofs.YtcflgoddfakepaaDoor

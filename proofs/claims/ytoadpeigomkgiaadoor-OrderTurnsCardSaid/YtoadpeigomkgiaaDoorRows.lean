/-
  NARROWER THAN 'FOR EVERY INPUT', by the rows' own cells (each row's printed sentence says how): OrderCompares: laid · OrderRanges: laid · OrderWithin: laid · OrderMeets: laid · OrderTurns: laid.
  DERIVED. THE GIVEN ROWS OF THIS SEAT. 5 by the template 'for every input the law returns true; each argument reads behind the call as it read before'; 0 by the template 'total and deterministic' (their statements: YtoadpeigomkgiaaDoorTotals.lean).
  GIVEN WITH THE SEED: the statements are not yours to turn. If you find one false, say at which input.
  Laid BY PROGRAM, IN A SANDBOX (cutbox-rows.mjs): the forced cells as the released guide's own fill.sh prints them over the translation d11d118aa603dc4c… (all of the seat's roots in one cut). By AI agents, Wed Nov 11 2026. No macro, syntax, notation, axiom, sorry.
-/
import Derived.Test.YtoadpeigomkgiaaDoorChecked
import GoSem.PinnedTables
import GoSem.Claim
import GoSem.ClaimJoined
import GoSem.ClaimMapViews
import Derived.JoinedTies
import Derived.KernelRfl
namespace Go.Proofs.YtoadpeigomkgiaaDoor
/- THE CELL 'sum', in the pinned program and in every row, IS THE sha256 OF THE DUMP (.gsa) THAT YtoadpeigomkgiaaDoorProg.lean LOADS. Nothing in Lean hashes anything: it is a label: what it is worth is what the hold of that sum in a sandbox is worth. -/
noncomputable def Tryd.pinned : Pinned := { name := "ytoadpeigomkgiaadoor", sum := "d11d118aa603dc4c7448628702657d8a97f000fb2822634c511a30b428432f3a", checked := Tryd.checked }
namespace Rows
def none {H : Type} : Left H := { results := [], args := [] }

/- WHAT THE LISTED PACKAGE-LEVEL VARIABLES READ AS WHEN THE CALL BEGINS. Each datum BY PROGRAM (the guide's laid-datum.mjs) off the statement by which the dump's own 'gosem.cut.vars' lays the variable. In a bare row this is a premise. The card (YtoadpeigomkgiaaDoorCards.lean) ties it to the program's text. -/
def laid_unicode_utf8_acceptRanges {H : Type} : DataW H := .agg [.agg [.lit (.int .u8 128), .lit (.int .u8 191)], .agg [.lit (.int .u8 160), .lit (.int .u8 191)], .agg [.lit (.int .u8 128), .lit (.int .u8 159)], .agg [.lit (.int .u8 144), .lit (.int .u8 191)], .agg [.lit (.int .u8 128), .lit (.int .u8 143)], .agg [.lit (.int .u8 0), .lit (.int .u8 0)], .agg [.lit (.int .u8 0), .lit (.int .u8 0)], .agg [.lit (.int .u8 0), .lit (.int .u8 0)], .agg [.lit (.int .u8 0), .lit (.int .u8 0)], .agg [.lit (.int .u8 0), .lit (.int .u8 0)], .agg [.lit (.int .u8 0), .lit (.int .u8 0)], .agg [.lit (.int .u8 0), .lit (.int .u8 0)], .agg [.lit (.int .u8 0), .lit (.int .u8 0)], .agg [.lit (.int .u8 0), .lit (.int .u8 0)], .agg [.lit (.int .u8 0), .lit (.int .u8 0)], .agg [.lit (.int .u8 0), .lit (.int .u8 0)]]
/-- One of Go's own tables, pinned by name: the form's constant. -/
def laid_unicode_utf8_first : DataW Unit := Go.Pinned.utf8First

/-- 'greffierlaw11.OrderCompares': WHATEVER THE INPUT: true; the input reads as it did. -/
def orderComparesSpec : ChangeSpec := { name := "orderCompares", fn := fun _ => fun
  | [d1, d2, d3, d4] => { results := [.lit (.bool true)], args := [d1, d2, d3, d4] }
  | _ => none }
def orderComparesRow : OpenClaim := { program := "ytoadpeigomkgiaadoor", sum := "d11d118aa603dc4c7448628702657d8a97f000fb2822634c511a30b428432f3a", func := "greffier/greffierlaw11.OrderCompares", spec := "orderCompares", inPlace := ["internal/bytealg.Compare", "math.Float64frombits", "internal/bytealg.IndexByte", "internal/bytealg.Index", "math.Float64bits"], unfollowed := true, recurses := true, named := ["internal/bytealg.MaxLen", "unicode/utf8.first", "unicode/utf8.acceptRanges"], apart := false, laid := [("unicode/utf8.acceptRanges", laid_unicode_utf8_acceptRanges), ("unicode/utf8.first", laid_unicode_utf8_first)] }
def OrderComparesSaid : Prop := orderComparesRow.holds Tryd.pinned (OpenSpec.ofChange orderComparesSpec)

/-- ITS FALSE NEIGHBOUR: 'it returns false'. Refute it at one input. -/
def orderComparesWrong : ChangeSpec := { name := "orderCompares", fn := fun _ => fun
  | [d1, d2, d3, d4] => { results := [.lit (.bool false)], args := [d1, d2, d3, d4] }
  | _ => none }
def OrderComparesWrongFalsely : Prop := orderComparesRow.holds Tryd.pinned (OpenSpec.ofChange orderComparesWrong)

/-- 'greffierlaw11.OrderRanges': WHATEVER THE INPUT: true; the input reads as it did. -/
def orderRangesSpec : ChangeSpec := { name := "orderRanges", fn := fun _ => fun
  | [d1, d2] => { results := [.lit (.bool true)], args := [d1, d2] }
  | _ => none }
def orderRangesRow : OpenClaim := { program := "ytoadpeigomkgiaadoor", sum := "d11d118aa603dc4c7448628702657d8a97f000fb2822634c511a30b428432f3a", func := "greffier/greffierlaw11.OrderRanges", spec := "orderRanges", inPlace := ["internal/bytealg.Compare", "math.Float64frombits", "internal/bytealg.IndexByte", "internal/bytealg.Index", "math.Float64bits"], unfollowed := true, recurses := true, named := ["internal/bytealg.MaxLen", "unicode/utf8.first", "unicode/utf8.acceptRanges"], apart := false, laid := [("unicode/utf8.acceptRanges", laid_unicode_utf8_acceptRanges), ("unicode/utf8.first", laid_unicode_utf8_first)] }
def OrderRangesSaid : Prop := orderRangesRow.holds Tryd.pinned (OpenSpec.ofChange orderRangesSpec)

/-- ITS FALSE NEIGHBOUR: 'it returns false'. Refute it at one input. -/
def orderRangesWrong : ChangeSpec := { name := "orderRanges", fn := fun _ => fun
  | [d1, d2] => { results := [.lit (.bool false)], args := [d1, d2] }
  | _ => none }
def OrderRangesWrongFalsely : Prop := orderRangesRow.holds Tryd.pinned (OpenSpec.ofChange orderRangesWrong)

/-- 'greffierlaw11.OrderWithin': WHATEVER THE INPUT: true; the input reads as it did. -/
def orderWithinSpec : ChangeSpec := { name := "orderWithin", fn := fun _ => fun
  | [d1, d2, d3] => { results := [.lit (.bool true)], args := [d1, d2, d3] }
  | _ => none }
def orderWithinRow : OpenClaim := { program := "ytoadpeigomkgiaadoor", sum := "d11d118aa603dc4c7448628702657d8a97f000fb2822634c511a30b428432f3a", func := "greffier/greffierlaw11.OrderWithin", spec := "orderWithin", inPlace := ["internal/bytealg.Compare", "math.Float64frombits", "internal/bytealg.IndexByte", "internal/bytealg.Index", "math.Float64bits"], unfollowed := true, recurses := true, named := ["internal/bytealg.MaxLen", "unicode/utf8.first", "unicode/utf8.acceptRanges"], apart := false, laid := [("unicode/utf8.acceptRanges", laid_unicode_utf8_acceptRanges), ("unicode/utf8.first", laid_unicode_utf8_first)] }
def OrderWithinSaid : Prop := orderWithinRow.holds Tryd.pinned (OpenSpec.ofChange orderWithinSpec)

/-- ITS FALSE NEIGHBOUR: 'it returns false'. Refute it at one input. -/
def orderWithinWrong : ChangeSpec := { name := "orderWithin", fn := fun _ => fun
  | [d1, d2, d3] => { results := [.lit (.bool false)], args := [d1, d2, d3] }
  | _ => none }
def OrderWithinWrongFalsely : Prop := orderWithinRow.holds Tryd.pinned (OpenSpec.ofChange orderWithinWrong)

/-- 'greffierlaw11.OrderMeets': WHATEVER THE INPUT: true; the input reads as it did. -/
def orderMeetsSpec : ChangeSpec := { name := "orderMeets", fn := fun _ => fun
  | [d1, d2, d3] => { results := [.lit (.bool true)], args := [d1, d2, d3] }
  | _ => none }
def orderMeetsRow : OpenClaim := { program := "ytoadpeigomkgiaadoor", sum := "d11d118aa603dc4c7448628702657d8a97f000fb2822634c511a30b428432f3a", func := "greffier/greffierlaw11.OrderMeets", spec := "orderMeets", inPlace := ["internal/bytealg.Compare", "math.Float64frombits", "internal/bytealg.IndexByte", "internal/bytealg.Index", "math.Float64bits"], unfollowed := true, recurses := true, named := ["internal/bytealg.MaxLen", "unicode/utf8.first", "unicode/utf8.acceptRanges"], apart := false, laid := [("unicode/utf8.acceptRanges", laid_unicode_utf8_acceptRanges), ("unicode/utf8.first", laid_unicode_utf8_first)] }
def OrderMeetsSaid : Prop := orderMeetsRow.holds Tryd.pinned (OpenSpec.ofChange orderMeetsSpec)

/-- ITS FALSE NEIGHBOUR: 'it returns false'. Refute it at one input. -/
def orderMeetsWrong : ChangeSpec := { name := "orderMeets", fn := fun _ => fun
  | [d1, d2, d3] => { results := [.lit (.bool false)], args := [d1, d2, d3] }
  | _ => none }
def OrderMeetsWrongFalsely : Prop := orderMeetsRow.holds Tryd.pinned (OpenSpec.ofChange orderMeetsWrong)

/-- 'greffierlaw11.OrderTurns': WHATEVER THE INPUT: true; the input reads as it did. -/
def orderTurnsSpec : ChangeSpec := { name := "orderTurns", fn := fun _ => fun
  | [d1, d2, d3] => { results := [.lit (.bool true)], args := [d1, d2, d3] }
  | _ => none }
def orderTurnsRow : OpenClaim := { program := "ytoadpeigomkgiaadoor", sum := "d11d118aa603dc4c7448628702657d8a97f000fb2822634c511a30b428432f3a", func := "greffier/greffierlaw11.OrderTurns", spec := "orderTurns", inPlace := ["internal/bytealg.Compare", "math.Float64frombits", "internal/bytealg.IndexByte", "internal/bytealg.Index", "math.Float64bits"], unfollowed := true, recurses := true, named := ["internal/bytealg.MaxLen", "unicode/utf8.first", "unicode/utf8.acceptRanges"], apart := false, laid := [("unicode/utf8.acceptRanges", laid_unicode_utf8_acceptRanges), ("unicode/utf8.first", laid_unicode_utf8_first)] }
def OrderTurnsSaid : Prop := orderTurnsRow.holds Tryd.pinned (OpenSpec.ofChange orderTurnsSpec)

/-- ITS FALSE NEIGHBOUR: 'it returns false'. Refute it at one input. -/
def orderTurnsWrong : ChangeSpec := { name := "orderTurns", fn := fun _ => fun
  | [d1, d2, d3] => { results := [.lit (.bool false)], args := [d1, d2, d3] }
  | _ => none }
def OrderTurnsWrongFalsely : Prop := orderTurnsRow.holds Tryd.pinned (OpenSpec.ofChange orderTurnsWrong)

/- THE SECOND FORM. 'bulk': how many values and letters a reading holds, each counted each time it is reached (what is shared counts as often as it is met; a slice's spare places count too). A statement '..UptoSaid' is the law's where the arguments, and the package variables that the reading takes, are together of bulk at most 1048576: NARROWER than '..Said'. Prove '..Said' where nothing that the law and all that it calls make is longer than what came in: it says more and counts as full. Else prove '..UptoSaid'. A law counts once. -/
mutual
def uptoBulk {H : Type} : DataW H → Nat
  | .lit (.string bytes) => bytes.length + 1
  | .lit _ => 1
  | .nil => 1
  | .ptr d => uptoBulk d + 1
  | .slice elems spare => uptoBulkAll elems + uptoBulkAll spare + 1
  | .agg parts => uptoBulkAll parts + 1
  | .iface _ d => uptoBulk d + 1
  | .map entries => uptoBulkEntries entries + 1
  | .held _ => 1
def uptoBulkAll {H : Type} : List (DataW H) → Nat
  | [] => 0
  | d :: r => uptoBulk d + uptoBulkAll r
def uptoBulkEntries {H : Type} : List (Lit × DataW H) → Nat
  | [] => 0
  | x :: r => uptoBulkEntry x + uptoBulkEntries r
def uptoBulkEntry {H : Type} : Lit × DataW H → Nat
  | (.string bytes, d) => bytes.length + uptoBulk d + 1
  | (_, d) => uptoBulk d + 1
 end
def uptoSmall : (H : Type) → List (DataW H) → Bool := fun _ ds => decide (uptoBulkAll ds ≤ 1048576)
def OpenSpec.upto (s : _root_.Go.ChangeSpec) : _root_.Go.OpenSpec := { _root_.Go.OpenSpec.ofChange s with cond := some uptoSmall }

/-- 'greffierlaw11.OrderCompares', WHERE WHAT IT READS IS OF BULK AT MOST 1048576: true; the input reads as it did. -/
def orderComparesUptoRow : OpenClaim := { program := "ytoadpeigomkgiaadoor", sum := "d11d118aa603dc4c7448628702657d8a97f000fb2822634c511a30b428432f3a", func := "greffier/greffierlaw11.OrderCompares", spec := "orderCompares", inPlace := ["internal/bytealg.Compare", "math.Float64frombits", "internal/bytealg.IndexByte", "internal/bytealg.Index", "math.Float64bits"], unfollowed := true, recurses := true, named := ["internal/bytealg.MaxLen", "unicode/utf8.first", "unicode/utf8.acceptRanges"], apart := false, laid := [("unicode/utf8.acceptRanges", laid_unicode_utf8_acceptRanges), ("unicode/utf8.first", laid_unicode_utf8_first)], narrowed := true }
def OrderComparesUptoSaid : Prop := orderComparesUptoRow.holds Tryd.pinned (OpenSpec.upto orderComparesSpec)

/-- 'greffierlaw11.OrderRanges', WHERE WHAT IT READS IS OF BULK AT MOST 1048576: true; the input reads as it did. -/
def orderRangesUptoRow : OpenClaim := { program := "ytoadpeigomkgiaadoor", sum := "d11d118aa603dc4c7448628702657d8a97f000fb2822634c511a30b428432f3a", func := "greffier/greffierlaw11.OrderRanges", spec := "orderRanges", inPlace := ["internal/bytealg.Compare", "math.Float64frombits", "internal/bytealg.IndexByte", "internal/bytealg.Index", "math.Float64bits"], unfollowed := true, recurses := true, named := ["internal/bytealg.MaxLen", "unicode/utf8.first", "unicode/utf8.acceptRanges"], apart := false, laid := [("unicode/utf8.acceptRanges", laid_unicode_utf8_acceptRanges), ("unicode/utf8.first", laid_unicode_utf8_first)], narrowed := true }
def OrderRangesUptoSaid : Prop := orderRangesUptoRow.holds Tryd.pinned (OpenSpec.upto orderRangesSpec)

/-- 'greffierlaw11.OrderWithin', WHERE WHAT IT READS IS OF BULK AT MOST 1048576: true; the input reads as it did. -/
def orderWithinUptoRow : OpenClaim := { program := "ytoadpeigomkgiaadoor", sum := "d11d118aa603dc4c7448628702657d8a97f000fb2822634c511a30b428432f3a", func := "greffier/greffierlaw11.OrderWithin", spec := "orderWithin", inPlace := ["internal/bytealg.Compare", "math.Float64frombits", "internal/bytealg.IndexByte", "internal/bytealg.Index", "math.Float64bits"], unfollowed := true, recurses := true, named := ["internal/bytealg.MaxLen", "unicode/utf8.first", "unicode/utf8.acceptRanges"], apart := false, laid := [("unicode/utf8.acceptRanges", laid_unicode_utf8_acceptRanges), ("unicode/utf8.first", laid_unicode_utf8_first)], narrowed := true }
def OrderWithinUptoSaid : Prop := orderWithinUptoRow.holds Tryd.pinned (OpenSpec.upto orderWithinSpec)

/-- 'greffierlaw11.OrderMeets', WHERE WHAT IT READS IS OF BULK AT MOST 1048576: true; the input reads as it did. -/
def orderMeetsUptoRow : OpenClaim := { program := "ytoadpeigomkgiaadoor", sum := "d11d118aa603dc4c7448628702657d8a97f000fb2822634c511a30b428432f3a", func := "greffier/greffierlaw11.OrderMeets", spec := "orderMeets", inPlace := ["internal/bytealg.Compare", "math.Float64frombits", "internal/bytealg.IndexByte", "internal/bytealg.Index", "math.Float64bits"], unfollowed := true, recurses := true, named := ["internal/bytealg.MaxLen", "unicode/utf8.first", "unicode/utf8.acceptRanges"], apart := false, laid := [("unicode/utf8.acceptRanges", laid_unicode_utf8_acceptRanges), ("unicode/utf8.first", laid_unicode_utf8_first)], narrowed := true }
def OrderMeetsUptoSaid : Prop := orderMeetsUptoRow.holds Tryd.pinned (OpenSpec.upto orderMeetsSpec)

/-- 'greffierlaw11.OrderTurns', WHERE WHAT IT READS IS OF BULK AT MOST 1048576: true; the input reads as it did. -/
def orderTurnsUptoRow : OpenClaim := { program := "ytoadpeigomkgiaadoor", sum := "d11d118aa603dc4c7448628702657d8a97f000fb2822634c511a30b428432f3a", func := "greffier/greffierlaw11.OrderTurns", spec := "orderTurns", inPlace := ["internal/bytealg.Compare", "math.Float64frombits", "internal/bytealg.IndexByte", "internal/bytealg.Index", "math.Float64bits"], unfollowed := true, recurses := true, named := ["internal/bytealg.MaxLen", "unicode/utf8.first", "unicode/utf8.acceptRanges"], apart := false, laid := [("unicode/utf8.acceptRanges", laid_unicode_utf8_acceptRanges), ("unicode/utf8.first", laid_unicode_utf8_first)], narrowed := true }
def OrderTurnsUptoSaid : Prop := orderTurnsUptoRow.holds Tryd.pinned (OpenSpec.upto orderTurnsSpec)

end Rows
end Go.Proofs.YtoadpeigomkgiaaDoor

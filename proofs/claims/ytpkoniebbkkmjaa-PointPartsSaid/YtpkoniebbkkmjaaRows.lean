/-
  No cell of these rows narrows 'for every input' (looked for: loops, veiled, ifaces, maps, wideKeys, modest, calm, conditions, laid).
  DERIVED. THE GIVEN ROWS OF THIS SEAT. 6 by the template 'for every input the law returns true; each argument reads behind the call as it read before'; 0 by the template 'total and deterministic' (their statements: YtpkoniebbkkmjaaTotals.lean).
  GIVEN WITH THE SEED: the statements are not yours to turn. If you find one false, say at which input.
  Laid BY PROGRAM, IN A SANDBOX (cutbox-rows.mjs): the forced cells as the released guide's own fill.sh prints them over the translation 75c16f3ebdf296ed… (all of the seat's roots in one cut). By AI agents, Wed Nov 11 2026. No macro, syntax, notation, axiom, sorry.
-/
import Derived.Test.YtpkoniebbkkmjaaChecked
import GoSem.Claim
import GoSem.ClaimJoined
import GoSem.ClaimMapViews
import Derived.JoinedTies
import Derived.KernelRfl
namespace Go.Proofs.Ytpkoniebbkkmjaa
/- THE CELL 'sum', in the pinned program and in every row, IS THE sha256 OF THE DUMP (.gsa) THAT YtpkoniebbkkmjaaProg.lean LOADS. Nothing in Lean hashes anything: it is a label: what it is worth is what the hold of that sum in a sandbox is worth. -/
noncomputable def Try.pinned : Pinned := { name := "ytpkoniebbkkmjaa", sum := "75c16f3ebdf296ed547bfb14a95bc3a0e4c9b4ee9fe34383f693f4a7c59f2cf3", checked := Try.checked }
namespace Rows
def none {H : Type} : Left H := { results := [], args := [] }

/-- 'greffierlaw07.PointGets': WHATEVER THE INPUT: true; the input reads as it did. -/
def pointGetsSpec : ChangeSpec := { name := "pointGets", fn := fun _ => fun
  | [d] => { results := [.lit (.bool true)], args := [d] }
  | _ => none }
def pointGetsRow : OpenClaim := { program := "ytpkoniebbkkmjaa", sum := "75c16f3ebdf296ed547bfb14a95bc3a0e4c9b4ee9fe34383f693f4a7c59f2cf3", func := "greffier/greffierlaw07.PointGets", spec := "pointGets", inPlace := ["math/bits.Add64"], apart := false }
def PointGetsSaid : Prop := pointGetsRow.holds Try.pinned (OpenSpec.ofChange pointGetsSpec)

/-- ITS FALSE NEIGHBOUR: 'it returns false'. Refute it at one input. -/
def pointGetsWrong : ChangeSpec := { name := "pointGets", fn := fun _ => fun
  | [d] => { results := [.lit (.bool false)], args := [d] }
  | _ => none }
def PointGetsWrongFalsely : Prop := pointGetsRow.holds Try.pinned (OpenSpec.ofChange pointGetsWrong)

/-- 'greffierlaw07.PointAdds': WHATEVER THE INPUT: true; the input reads as it did. -/
def pointAddsSpec : ChangeSpec := { name := "pointAdds", fn := fun _ => fun
  | [d1, d2] => { results := [.lit (.bool true)], args := [d1, d2] }
  | _ => none }
def pointAddsRow : OpenClaim := { program := "ytpkoniebbkkmjaa", sum := "75c16f3ebdf296ed547bfb14a95bc3a0e4c9b4ee9fe34383f693f4a7c59f2cf3", func := "greffier/greffierlaw07.PointAdds", spec := "pointAdds", inPlace := ["math/bits.Add64"], apart := false }
def PointAddsSaid : Prop := pointAddsRow.holds Try.pinned (OpenSpec.ofChange pointAddsSpec)

/-- ITS FALSE NEIGHBOUR: 'it returns false'. Refute it at one input. -/
def pointAddsWrong : ChangeSpec := { name := "pointAdds", fn := fun _ => fun
  | [d1, d2] => { results := [.lit (.bool false)], args := [d1, d2] }
  | _ => none }
def PointAddsWrongFalsely : Prop := pointAddsRow.holds Try.pinned (OpenSpec.ofChange pointAddsWrong)

/-- 'greffierlaw07.PointLaws': WHATEVER THE INPUT: true; the input reads as it did. -/
def pointLawsSpec : ChangeSpec := { name := "pointLaws", fn := fun _ => fun
  | [d1, d2, d3] => { results := [.lit (.bool true)], args := [d1, d2, d3] }
  | _ => none }
def pointLawsRow : OpenClaim := { program := "ytpkoniebbkkmjaa", sum := "75c16f3ebdf296ed547bfb14a95bc3a0e4c9b4ee9fe34383f693f4a7c59f2cf3", func := "greffier/greffierlaw07.PointLaws", spec := "pointLaws", inPlace := ["math/bits.Add64"], apart := false }
def PointLawsSaid : Prop := pointLawsRow.holds Try.pinned (OpenSpec.ofChange pointLawsSpec)

/-- ITS FALSE NEIGHBOUR: 'it returns false'. Refute it at one input. -/
def pointLawsWrong : ChangeSpec := { name := "pointLaws", fn := fun _ => fun
  | [d1, d2, d3] => { results := [.lit (.bool false)], args := [d1, d2, d3] }
  | _ => none }
def PointLawsWrongFalsely : Prop := pointLawsRow.holds Try.pinned (OpenSpec.ofChange pointLawsWrong)

/-- 'greffierlaw07.PointTimes': WHATEVER THE INPUT: true; the input reads as it did. -/
def pointTimesSpec : ChangeSpec := { name := "pointTimes", fn := fun _ => fun
  | [d1, d2] => { results := [.lit (.bool true)], args := [d1, d2] }
  | _ => none }
def pointTimesRow : OpenClaim := { program := "ytpkoniebbkkmjaa", sum := "75c16f3ebdf296ed547bfb14a95bc3a0e4c9b4ee9fe34383f693f4a7c59f2cf3", func := "greffier/greffierlaw07.PointTimes", spec := "pointTimes", inPlace := ["math/bits.Add64"], apart := false }
def PointTimesSaid : Prop := pointTimesRow.holds Try.pinned (OpenSpec.ofChange pointTimesSpec)

/-- ITS FALSE NEIGHBOUR: 'it returns false'. Refute it at one input. -/
def pointTimesWrong : ChangeSpec := { name := "pointTimes", fn := fun _ => fun
  | [d1, d2] => { results := [.lit (.bool false)], args := [d1, d2] }
  | _ => none }
def PointTimesWrongFalsely : Prop := pointTimesRow.holds Try.pinned (OpenSpec.ofChange pointTimesWrong)

/-- 'greffierlaw07.PointCounts': WHATEVER THE INPUT: true; the input reads as it did. -/
def pointCountsSpec : ChangeSpec := { name := "pointCounts", fn := fun _ => fun
  | [d1, d2] => { results := [.lit (.bool true)], args := [d1, d2] }
  | _ => none }
def pointCountsRow : OpenClaim := { program := "ytpkoniebbkkmjaa", sum := "75c16f3ebdf296ed547bfb14a95bc3a0e4c9b4ee9fe34383f693f4a7c59f2cf3", func := "greffier/greffierlaw07.PointCounts", spec := "pointCounts", inPlace := ["math/bits.Add64"], apart := false }
def PointCountsSaid : Prop := pointCountsRow.holds Try.pinned (OpenSpec.ofChange pointCountsSpec)

/-- ITS FALSE NEIGHBOUR: 'it returns false'. Refute it at one input. -/
def pointCountsWrong : ChangeSpec := { name := "pointCounts", fn := fun _ => fun
  | [d1, d2] => { results := [.lit (.bool false)], args := [d1, d2] }
  | _ => none }
def PointCountsWrongFalsely : Prop := pointCountsRow.holds Try.pinned (OpenSpec.ofChange pointCountsWrong)

/-- 'greffierlaw07.PointParts': WHATEVER THE INPUT: true; the input reads as it did. -/
def pointPartsSpec : ChangeSpec := { name := "pointParts", fn := fun _ => fun
  | [d1, d2] => { results := [.lit (.bool true)], args := [d1, d2] }
  | _ => none }
def pointPartsRow : OpenClaim := { program := "ytpkoniebbkkmjaa", sum := "75c16f3ebdf296ed547bfb14a95bc3a0e4c9b4ee9fe34383f693f4a7c59f2cf3", func := "greffier/greffierlaw07.PointParts", spec := "pointParts", inPlace := ["math/bits.Add64", "math/bits.Sub64"], unfollowed := true, recurses := true, apart := false }
def PointPartsSaid : Prop := pointPartsRow.holds Try.pinned (OpenSpec.ofChange pointPartsSpec)

/-- ITS FALSE NEIGHBOUR: 'it returns false'. Refute it at one input. -/
def pointPartsWrong : ChangeSpec := { name := "pointParts", fn := fun _ => fun
  | [d1, d2] => { results := [.lit (.bool false)], args := [d1, d2] }
  | _ => none }
def PointPartsWrongFalsely : Prop := pointPartsRow.holds Try.pinned (OpenSpec.ofChange pointPartsWrong)

/- THE SECOND FORM. 'bulk': how many values and letters a reading holds, each counted each time it is reached (what is shared counts as often as it is met; a slice's spare places count too). A statement '..UptoSaid' is the law's where the arguments, and the package variables that the reading takes, are together of bulk at most 1048576: NARROWER than '..Said'. Prove '..Said' where nothing that the law and all that it calls make is longer than what came in: it says more and counts as full. Else prove '..UptoSaid'. A law counts once. -/
mutual
def uptoBulk {H : Type} : DataW H → Nat
  | .lit (.string bytes) => bytes.length + 1
  | .lit _ => 1
  | .nil => 1
  | .ptr d => uptoBulk d + 1
  | .slice elems spare => uptoBulkAll elems + uptoBulkAll spare + 1
  | .agg parts => uptoBulkAll parts + 1
  | .iface _ d => uptoBulk d + 1
  | .map entries => uptoBulkEntries entries + 1
  | .held _ => 1
def uptoBulkAll {H : Type} : List (DataW H) → Nat
  | [] => 0
  | d :: r => uptoBulk d + uptoBulkAll r
def uptoBulkEntries {H : Type} : List (Lit × DataW H) → Nat
  | [] => 0
  | x :: r => uptoBulkEntry x + uptoBulkEntries r
def uptoBulkEntry {H : Type} : Lit × DataW H → Nat
  | (.string bytes, d) => bytes.length + uptoBulk d + 1
  | (_, d) => uptoBulk d + 1
 end
def uptoSmall : (H : Type) → List (DataW H) → Bool := fun _ ds => decide (uptoBulkAll ds ≤ 1048576)
def OpenSpec.upto (s : _root_.Go.ChangeSpec) : _root_.Go.OpenSpec := { _root_.Go.OpenSpec.ofChange s with cond := some uptoSmall }

/-- 'greffierlaw07.PointGets', WHERE WHAT IT READS IS OF BULK AT MOST 1048576: true; the input reads as it did. -/
def pointGetsUptoRow : OpenClaim := { program := "ytpkoniebbkkmjaa", sum := "75c16f3ebdf296ed547bfb14a95bc3a0e4c9b4ee9fe34383f693f4a7c59f2cf3", func := "greffier/greffierlaw07.PointGets", spec := "pointGets", inPlace := ["math/bits.Add64"], apart := false, narrowed := true }
def PointGetsUptoSaid : Prop := pointGetsUptoRow.holds Try.pinned (OpenSpec.upto pointGetsSpec)

/-- 'greffierlaw07.PointAdds', WHERE WHAT IT READS IS OF BULK AT MOST 1048576: true; the input reads as it did. -/
def pointAddsUptoRow : OpenClaim := { program := "ytpkoniebbkkmjaa", sum := "75c16f3ebdf296ed547bfb14a95bc3a0e4c9b4ee9fe34383f693f4a7c59f2cf3", func := "greffier/greffierlaw07.PointAdds", spec := "pointAdds", inPlace := ["math/bits.Add64"], apart := false, narrowed := true }
def PointAddsUptoSaid : Prop := pointAddsUptoRow.holds Try.pinned (OpenSpec.upto pointAddsSpec)

/-- 'greffierlaw07.PointLaws', WHERE WHAT IT READS IS OF BULK AT MOST 1048576: true; the input reads as it did. -/
def pointLawsUptoRow : OpenClaim := { program := "ytpkoniebbkkmjaa", sum := "75c16f3ebdf296ed547bfb14a95bc3a0e4c9b4ee9fe34383f693f4a7c59f2cf3", func := "greffier/greffierlaw07.PointLaws", spec := "pointLaws", inPlace := ["math/bits.Add64"], apart := false, narrowed := true }
def PointLawsUptoSaid : Prop := pointLawsUptoRow.holds Try.pinned (OpenSpec.upto pointLawsSpec)

/-- 'greffierlaw07.PointTimes', WHERE WHAT IT READS IS OF BULK AT MOST 1048576: true; the input reads as it did. -/
def pointTimesUptoRow : OpenClaim := { program := "ytpkoniebbkkmjaa", sum := "75c16f3ebdf296ed547bfb14a95bc3a0e4c9b4ee9fe34383f693f4a7c59f2cf3", func := "greffier/greffierlaw07.PointTimes", spec := "pointTimes", inPlace := ["math/bits.Add64"], apart := false, narrowed := true }
def PointTimesUptoSaid : Prop := pointTimesUptoRow.holds Try.pinned (OpenSpec.upto pointTimesSpec)

/-- 'greffierlaw07.PointCounts', WHERE WHAT IT READS IS OF BULK AT MOST 1048576: true; the input reads as it did. -/
def pointCountsUptoRow : OpenClaim := { program := "ytpkoniebbkkmjaa", sum := "75c16f3ebdf296ed547bfb14a95bc3a0e4c9b4ee9fe34383f693f4a7c59f2cf3", func := "greffier/greffierlaw07.PointCounts", spec := "pointCounts", inPlace := ["math/bits.Add64"], apart := false, narrowed := true }
def PointCountsUptoSaid : Prop := pointCountsUptoRow.holds Try.pinned (OpenSpec.upto pointCountsSpec)

/-- 'greffierlaw07.PointParts', WHERE WHAT IT READS IS OF BULK AT MOST 1048576: true; the input reads as it did. -/
def pointPartsUptoRow : OpenClaim := { program := "ytpkoniebbkkmjaa", sum := "75c16f3ebdf296ed547bfb14a95bc3a0e4c9b4ee9fe34383f693f4a7c59f2cf3", func := "greffier/greffierlaw07.PointParts", spec := "pointParts", inPlace := ["math/bits.Add64", "math/bits.Sub64"], unfollowed := true, recurses := true, apart := false, narrowed := true }
def PointPartsUptoSaid : Prop := pointPartsUptoRow.holds Try.pinned (OpenSpec.upto pointPartsSpec)

end Rows
end Go.Proofs.Ytpkoniebbkkmjaa

/- Slices of bytes: two small words more. -/
import Derived.Test.YtcflgoddfakepaaDoorConv
import Derived.OwnWalk
namespace Go.Proofs.YtcflgoddfakepaaDoor
open Go.RowKit

theorem infoU8 : (Tryd.prog.info? 5).map (fun i => (i.zero, i.size, i.bytes)) = some (some (.int .u8 0), 1, 1) := by kernel_rfl

theorem slTwo (w : World) (g : Nat) (c d : UInt8) (h : w.cell? ⟨g, 0, none⟩ = some (.int .u8 (c.toNat : Int))) (h' : w.cell? ⟨g, 1, none⟩ = some (.int .u8 (d.toNat : Int))) : Sl w (some ⟨g, 0, none⟩) 2 2 [c, d] := by
  refine ⟨rfl, Nat.le_refl _, by unfold maxLen; omega, (fun h => by cases h), .inr ⟨g, 0, rfl, fun i hi => ?_⟩⟩
  match i, hi with
  | 0, _ => simpa using h
  | 1, _ => simpa using h'
theorem cellTwo (w : World) (u v : Value) (g : Nat) (hg : g = w.heap.size) : (w.alloc (.cells #[u, v] 5)).cell? ⟨g, 0, none⟩ = some u ∧ (w.alloc (.cells #[u, v] 5)).cell? ⟨g, 1, none⟩ = some v := by
  subst hg
  constructor <;> (rw [World.cell?_alloc_mark]; rfl)
end Go.Proofs.YtcflgoddfakepaaDoor

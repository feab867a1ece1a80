/- the document's example: the walk. -/
import Derived.Test.YtpdkbbenoipohaaDoorOctB64
import Derived.WalkLawsBesides
import Derived.WalkSpells
import Derived.BigQuiet
import Derived.Lib.SlBytesConst
namespace Go.Proofs.YtpdkbbenoipohaaDoor
open Go.RowKit

theorem sl_one (w : World) (c : UInt8) : Sl (w.alloc (.cells #[.int .u8 (c.toNat : Int)] 5 (1, 2))) (some ⟨w.heap.size, 0, none⟩) 1 1 [c] := by
  refine ⟨rfl, Nat.le_refl _, by unfold maxLen; omega, (fun h => by cases h), .inr ⟨w.heap.size, 0, rfl, fun i hi => ?_⟩⟩
  obtain rfl : i = 0 := by omega
  simp [World.cell?_alloc_mark]

set_option maxHeartbeats 400000 in
theorem awake_any (w : World) :
    Calls Tryd.prog 5 #[] w fun e w' => e = .returned (.bool true) ∧ Below w.heap.size w w' := by
  have kc := fun (w : World) (C : Array Value) (n c : Nat) => Lib.run_convert_bytes_const (P := Tryd.prog) w 22 5 C n c Tryd.underlying22 Tryd.underlying5
  have hr : b64 [97] = [89, 81, 61, 61] := by decide
  have HR := Lib.hid hr
  clear hr
  go_enter Tryd.func5, Tryd.ntmps5
  go_wp2_with fail
  refine (base64_any _ _ _ [97] _ (sl_one w 97) (by simp)).mono ?_
  rintro e w1 ⟨rfl, hb⟩
  rw [HR.out]
  go_wp2_with fail
  go_ret
  exact ⟨rfl, ((Below.refl _ _).alloc (Nat.le_refl _) _).trans (hb.mono (by simp))⟩

end Go.Proofs.YtpdkbbenoipohaaDoor

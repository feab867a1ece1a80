/- DateGets: the number of any text, as a date, and as a clock's time, or that it is none, is the document's: the walk. -/
import Derived.Test.YteekdcdjkiclhaaDateRef3
import Derived.Lib.SlBytesConst
import Derived.WalkSpells
namespace Go.Proofs.Yteekdcdjkiclhaa
open Go.RowKit

theorem sl_lit (w : World) (L : List UInt8) (fr : Nat × Nat) (hL : L.length ≤ 100) : Sl (w.alloc (.cells (Lib.byteCells L).toArray 5 fr)) (Option.some ⟨w.heap.size, 0, none⟩) L.length L.length L := by
  refine ⟨rfl, Nat.le_refl _, by unfold maxLen; omega, (fun h => by cases h), .inr ⟨w.heap.size, 0, rfl, fun i hi => ?_⟩⟩
  rw [World.cell?_alloc_mark]
  simp [Lib.byteCells, List.getD_eq_getElem?_getD, hi]

def awakeL : List UInt8 := [48, 48, 48, 48, 45, 48, 49, 45, 48, 50, 95, 48, 48, 58, 48, 48, 58, 48, 49]
set_option maxHeartbeats 1000000 in
set_option maxRecDepth 100000 in
theorem awake_any (w : World) :
    Calls Try.prog 7 #[] w fun e w' => e = .returned (.bool true) ∧ Below w.heap.size w w' := by
  have kc := fun (w : World) (C : Array Value) (n c : Nat) => Lib.run_convert_bytes_const (P := Try.prog) w 22 5 C n c Try.underlying22 Try.underlying5
  have h1 := Lib.hid (show dateOk awakeL = true by decide)
  have h2 := Lib.hid (show dateV awakeL = 86401 by decide)
  have hs := Lib.hid (sl_lit w awakeL (19, 20) (by decide))
  go_enter Try.func7, Try.ntmps7
  go_wp2_with fail
  refine (get_any _ _ _ awakeL _ hs.out (by decide)).mono ?_
  rintro e w1 ⟨rfl, hb⟩
  rw [h1.out, h2.out]
  go_wp2_with fail
  go_ret
  exact ⟨rfl, ((Below.refl _ _).alloc (Nat.le_refl _) _).trans (hb.mono (by simp))⟩

set_option maxHeartbeats 2000000 in
theorem DateGets_walk (a0 : Option Addr) (len0 cap0 : Nat) (z0 : List Int) (w : World) (w0 : IsRow .u8 w a0 len0 cap0 z0) :
    Calls Try.prog 3 #[.slice a0 len0 cap0] w fun e w' => e = .returned (.bool true) ∧ Below w.heap.size w w' := by
  obtain ⟨l0, s0⟩ := w0.sl
  clear w0
  by_cases h0 : (100 : Int) < len0
  · go_enter Try.func3, Try.ntmps3
    go_wp2_with fail
    refine (awake_any _).mono ?_
    rintro e w1 ⟨rfl, hb⟩
    go_wp2_with fail
    go_ret
    exact ⟨rfl, hb⟩
  · replace h0 : (len0 : Int) ≤ 100 := by omega
    have hl0 : l0.length ≤ 9223372036854775807 := s0.len_le
    go_enter Try.func3, Try.ntmps3
    go_wp2_with fail
    refine (get_any _ _ _ _ _ s0 hl0).mono ?_
    rintro e w1 ⟨rfl, hW1⟩
    go_wp2_with fail
    refine (refGet_any _ _ _ _ _ (s0.after hW1) hl0).mono ?_
    rintro e w2 ⟨rfl, hb2⟩
    have hW2 := hW1.trans (hb2.mono hW1.size)
    go_wp2_with fail
    refine (clock_any _ _ _ _ _ (s0.after hW2) hl0).mono ?_
    rintro e w3 ⟨rfl, hb3⟩
    have hW3 := hW2.trans (hb3.mono hW2.size)
    go_wp2_with fail
    refine (refClock_any _ _ _ _ _ (s0.after hW3) hl0).mono ?_
    rintro e w4 ⟨rfl, hb4⟩
    have hW4 := hW3.trans (hb4.mono hW3.size)
    obtain ⟨x1, hx1⟩ : ∃ x, x = dateV l0 := ⟨_, rfl⟩
    obtain ⟨x2, hx2⟩ : ∃ x, x = dateOk l0 := ⟨_, rfl⟩
    obtain ⟨x3, hx3⟩ : ∃ x, x = clockV l0 := ⟨_, rfl⟩
    obtain ⟨x4, hx4⟩ : ∃ x, x = clockOk l0 := ⟨_, rfl⟩
    rw [← hx1, ← hx2, ← hx3, ← hx4]
    clear hx1 hx2 hx3 hx4
    have e1 : (x1 == x1) = true := by simp
    have e2 : (x2 == x2) = true := by simp
    have e3 : (x3 == x3) = true := by simp
    have e4 : (x4 == x4) = true := by simp
    go_wp2_with fail
    refine (awake_any _).mono ?_
    rintro e w5 ⟨rfl, hb5⟩
    go_wp2_with fail
    go_ret
    exact ⟨rfl, hW4.trans (hb5.mono hW4.size)⟩
end Go.Proofs.Yteekdcdjkiclhaa

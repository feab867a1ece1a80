/- The orders of clocks and dates, order.Compare, order.Is: what they compute. -/
import Derived.Test.YtoadpeigomkgiaaDoorOrd3
namespace Go.Proofs.YtoadpeigomkgiaaDoor
open Go.RowKit

set_option maxHeartbeats 4000000 in
set_option maxRecDepth 100000 in
theorem numC_any (g : Nat) (a : Option Addr) (n c : Nat) (l : List UInt8) (b : Option Addr) (m d : Nat) (k : List UInt8) (w : World) (hg : w.cell? ⟨g, 0, none⟩ = some (.func (.func 42) #[] #[])) (h1 : Sl w a n c l) (h2 : Sl w b m d k) :
    Calls Tryd.prog 59 #[.slice a n c, .slice b m d, .pointer (some ⟨g, 0, none⟩)] w (CmpP 3 l k w) := by
  have hgl := cell_lt hg
  have hl1 := h1.len_le
  have hl2 := h2.len_le
  unfold CmpP
  have x1 : ((clockV l) != (clockV l)) = false := by simp
  have x2 : ((clockV k) != (clockV k)) = false := by simp
  obtain ⟨X, hX⟩ : ∃ X, X = clockV l := ⟨_, rfl⟩
  obtain ⟨Y, hY⟩ : ∃ Y, Y = clockV k := ⟨_, rfl⟩
  rw [← hX] at x1
  rw [← hY] at x2
  have HX := Lib.hid hX
  have HY := Lib.hid hY
  cases hl : clockOk l with
  | false =>
    obtain ⟨q1, q2⟩ := okV_no1 3 l k (ordV3_no l hl)
    rw [q1, q2]
    have HL := Lib.hid hl
    clear q1 q2 hl hX hY
    go_enter Tryd.func59, Tryd.ntmps59
    go_wp2_with fail
    refine (clock_any _ _ _ _ _ h1 hl1).mono ?_
    rintro e w1 ⟨rfl, hb1⟩
    rw [HL.out, ← HX.out]
    have hg1 := (hb1.cell hgl).trans hg
    go_wp2_with fail
    refine (clock_any _ _ _ _ _ (h2.after hb1) hl2).mono ?_
    rintro e w2 ⟨rfl, hb2⟩
    rw [← HY.out]
    have hW2 := hb1.trans (hb2.mono hb1.size)
    go_wp2_with fail
    go_ret2
    exact ⟨rfl, hW2⟩
  | true => cases hk : clockOk k with
    | false =>
      obtain ⟨q1, q2⟩ := okV_no2 3 l k (ordV3_no k hk)
      rw [q1, q2]
      have HL := Lib.hid hl
      have HK := Lib.hid hk
      clear q1 q2 hl hk hX hY
      go_enter Tryd.func59, Tryd.ntmps59
      go_wp2_with fail
      refine (clock_any _ _ _ _ _ h1 hl1).mono ?_
      rintro e w1 ⟨rfl, hb1⟩
      rw [HL.out, ← HX.out]
      have hg1 := (hb1.cell hgl).trans hg
      go_wp2_with fail
      refine (clock_any _ _ _ _ _ (h2.after hb1) hl2).mono ?_
      rintro e w2 ⟨rfl, hb2⟩
      rw [HK.out, ← HY.out]
      have hW2 := hb1.trans (hb2.mono hb1.size)
      go_wp2_with fail
      go_ret2
      exact ⟨rfl, hW2⟩
    | true =>
      obtain ⟨q1, q2⟩ := okV_yes 3 l k _ _ (ordV3_yes l hl) (ordV3_yes k hk)
      rw [q1, q2, cmpK_num, ← hX, ← hY]
      have HL := Lib.hid hl
      have HK := Lib.hid hk
      clear q1 q2 hl hk hX hY
      go_enter Tryd.func59, Tryd.ntmps59
      go_wp2_with fail
      refine (clock_any _ _ _ _ _ h1 hl1).mono ?_
      rintro e w1 ⟨rfl, hb1⟩
      rw [HL.out, ← HX.out]
      have hg1 := (hb1.cell hgl).trans hg
      go_wp2_with fail
      refine (clock_any _ _ _ _ _ (h2.after hb1) hl2).mono ?_
      rintro e w2 ⟨rfl, hb2⟩
      rw [HK.out, ← HY.out]
      have hW2 := hb1.trans (hb2.mono hb1.size)
      go_wp2_with fail
      refine (cmpL_any _ _ _).mono ?_
      rintro e w3 ⟨rfl, rfl⟩
      go_wp2_with fail
      go_ret2
      exact ⟨rfl, hW2⟩

set_option maxHeartbeats 4000000 in
set_option maxRecDepth 100000 in
theorem numD_any (g : Nat) (a : Option Addr) (n c : Nat) (l : List UInt8) (b : Option Addr) (m d : Nat) (k : List UInt8) (w : World) (hg : w.cell? ⟨g, 0, none⟩ = some (.func (.func 44) #[] #[])) (h1 : Sl w a n c l) (h2 : Sl w b m d k) :
    Calls Tryd.prog 59 #[.slice a n c, .slice b m d, .pointer (some ⟨g, 0, none⟩)] w (CmpP 5 l k w) := by
  have hgl := cell_lt hg
  have hl1 := h1.len_le
  have hl2 := h2.len_le
  unfold CmpP
  have x1 : ((dateV l) != (dateV l)) = false := by simp
  have x2 : ((dateV k) != (dateV k)) = false := by simp
  obtain ⟨X, hX⟩ : ∃ X, X = dateV l := ⟨_, rfl⟩
  obtain ⟨Y, hY⟩ : ∃ Y, Y = dateV k := ⟨_, rfl⟩
  rw [← hX] at x1
  rw [← hY] at x2
  have HX := Lib.hid hX
  have HY := Lib.hid hY
  cases hl : dateOk l with
  | false =>
    obtain ⟨q1, q2⟩ := okV_no1 5 l k (ordV5_no l hl)
    rw [q1, q2]
    have HL := Lib.hid hl
    clear q1 q2 hl hX hY
    go_enter Tryd.func59, Tryd.ntmps59
    go_wp2_with fail
    refine (get_anyD _ _ _ _ _ h1 hl1).mono ?_
    rintro e w1 ⟨rfl, hb1⟩
    rw [HL.out, ← HX.out]
    have hg1 := (hb1.cell hgl).trans hg
    go_wp2_with fail
    refine (get_anyD _ _ _ _ _ (h2.after hb1) hl2).mono ?_
    rintro e w2 ⟨rfl, hb2⟩
    rw [← HY.out]
    have hW2 := hb1.trans (hb2.mono hb1.size)
    go_wp2_with fail
    go_ret2
    exact ⟨rfl, hW2⟩
  | true => cases hk : dateOk k with
    | false =>
      obtain ⟨q1, q2⟩ := okV_no2 5 l k (ordV5_no k hk)
      rw [q1, q2]
      have HL := Lib.hid hl
      have HK := Lib.hid hk
      clear q1 q2 hl hk hX hY
      go_enter Tryd.func59, Tryd.ntmps59
      go_wp2_with fail
      refine (get_anyD _ _ _ _ _ h1 hl1).mono ?_
      rintro e w1 ⟨rfl, hb1⟩
      rw [HL.out, ← HX.out]
      have hg1 := (hb1.cell hgl).trans hg
      go_wp2_with fail
      refine (get_anyD _ _ _ _ _ (h2.after hb1) hl2).mono ?_
      rintro e w2 ⟨rfl, hb2⟩
      rw [HK.out, ← HY.out]
      have hW2 := hb1.trans (hb2.mono hb1.size)
      go_wp2_with fail
      go_ret2
      exact ⟨rfl, hW2⟩
    | true =>
      obtain ⟨q1, q2⟩ := okV_yes 5 l k _ _ (ordV5_yes l hl) (ordV5_yes k hk)
      rw [q1, q2, cmpK_num, ← hX, ← hY]
      have HL := Lib.hid hl
      have HK := Lib.hid hk
      clear q1 q2 hl hk hX hY
      go_enter Tryd.func59, Tryd.ntmps59
      go_wp2_with fail
      refine (get_anyD _ _ _ _ _ h1 hl1).mono ?_
      rintro e w1 ⟨rfl, hb1⟩
      rw [HL.out, ← HX.out]
      have hg1 := (hb1.cell hgl).trans hg
      go_wp2_with fail
      refine (get_anyD _ _ _ _ _ (h2.after hb1) hl2).mono ?_
      rintro e w2 ⟨rfl, hb2⟩
      rw [HK.out, ← HY.out]
      have hW2 := hb1.trans (hb2.mono hb1.size)
      go_wp2_with fail
      refine (cmpL_any _ _ _).mono ?_
      rintro e w3 ⟨rfl, rfl⟩
      go_wp2_with fail
      go_ret2
      exact ⟨rfl, hW2⟩

end Go.Proofs.YtoadpeigomkgiaaDoor

/- cmp.Or, the orders of texts and of numbers as bytes: what they compute. -/
import Derived.Test.YtoadpeigomkgiaaDoorOrd1
namespace Go.Proofs.YtoadpeigomkgiaaDoor
open Go.RowKit

theorem okV_no1 (o : Nat) (l k : List UInt8) (h : ordV o l = none) : okV o l k = false ∧ cV o l k = 0 := by
  have : okV o l k = false := by unfold okV isV; rw [h]; rfl
  exact ⟨this, cV_no o l k this⟩
theorem okV_no2 (o : Nat) (l k : List UInt8) (h : ordV o k = none) : okV o l k = false ∧ cV o l k = 0 := by
  have : okV o l k = false := by unfold okV isV; rw [h]; simp
  exact ⟨this, cV_no o l k this⟩
theorem okV_yes (o : Nat) (l k : List UInt8) (x y : Int × List UInt8) (h : ordV o l = some x) (h' : ordV o k = some y) : okV o l k = true ∧ cV o l k = cmpK x y := by
  unfold okV isV cV; rw [h, h']; exact ⟨rfl, rfl⟩
theorem cmpK_num (x y : Int) : cmpK (x, []) (y, []) = cmpZ x y := by unfold cmpK cmpZ bcmp; simp [Op.bytesLess]
theorem cmpK_txt (x : Int) (l k : List UInt8) : cmpK (x, l) (x, k) = bcmp l k := by unfold cmpK; simp
theorem cmpK_bin (x y : Int) (l k : List UInt8) : cmpK (x, l) (y, k) = if cmpZ x y = 0 then bcmp l k else cmpZ x y := by
  unfold cmpK cmpZ
  by_cases h : x < y
  · simp [h]
  · by_cases h' : y < x <;> simp [h, h']

set_option maxHeartbeats 1000000 in
theorem or_any (x y : Int) (g c : Nat) (w : World) (h0 : w.cell? ⟨g, 0, none⟩ = some (.int .i64 x)) (h1 : w.cell? ⟨g, 1, none⟩ = some (.int .i64 y)) :
    Calls Tryd.prog 64 #[.slice (some ⟨g, 0, none⟩) 2 c] w fun e w' => e = .returned (.int .i64 (if x = 0 then y else x)) ∧ w = w' := by
  by_cases hx : x = 0
  · subst hx
    rw [if_pos rfl]
    by_cases hy : y = 0
    · subst hy
      go_enter Tryd.func64, Tryd.ntmps64
      go_wp2_with fail
      refine wp_loop_rounds 3 ?_
      rw [rounds_succ]
      go_wp2_with fail
      rw [rounds_succ]
      go_wp2_with fail
      rw [rounds_succ]
      go_wp2_with fail
      go_ret
      exact ⟨rfl, rfl⟩
    · have q : (y != 0) = true := by rw [bne_iff_ne]; exact hy
      clear hy
      go_enter Tryd.func64, Tryd.ntmps64
      go_wp2_with fail
      refine wp_loop_rounds 2 ?_
      rw [rounds_succ]
      go_wp2_with fail
      rw [rounds_succ]
      go_wp2_with fail
      go_ret
      exact ⟨rfl, rfl⟩
  · have q : (x != 0) = true := by rw [bne_iff_ne]; exact hx
    rw [if_neg hx]
    clear hx
    go_enter Tryd.func64, Tryd.ntmps64
    go_wp2_with fail
    refine wp_loop_rounds 1 ?_
    rw [rounds_succ]
    go_wp2_with fail
    go_ret
    exact ⟨rfl, rfl⟩

def CmpP (o : Nat) (l k : List UInt8) (w : World) (e : Ending) (w' : World) : Prop := e = .returned (.tuple #[.int .i64 (cV o l k), .bool (okV o l k)]) ∧ Below w.heap.size w w'

theorem alpha_any (a : Option Addr) (n c : Nat) (l : List UInt8) (b : Option Addr) (m d : Nat) (k : List UInt8) (w : World) (h1 : Sl w a n c l) (h2 : Sl w b m d k) :
    Calls Tryd.prog 38 #[.slice a n c, .slice b m d] w (CmpP 1 l k w) := by
  obtain ⟨q1, q2⟩ := okV_yes 1 l k (0, l) (0, k) rfl rfl
  rw [cmpK_txt] at q2
  unfold CmpP
  rw [q1, q2]
  clear q1 q2
  go_enter Tryd.func38, Tryd.ntmps38
  go_wp2_with fail
  refine (bytesCmp_any _ _ _ _ _ _ _ _ _ h1 h2).mono ?_
  rintro e w' ⟨rfl, rfl⟩
  go_wp2_with fail
  go_ret2
  exact ⟨rfl, Below.refl _ _⟩

set_option maxHeartbeats 1000000 in
theorem binary_any (a : Option Addr) (n c : Nat) (l : List UInt8) (b : Option Addr) (m d : Nat) (k : List UInt8) (w : World) (h1 : Sl w a n c l) (h2 : Sl w b m d k) (hn : n ≤ 200) (hm : m ≤ 200) :
    Calls Tryd.prog 43 #[.slice a n c, .slice b m d] w (CmpP 4 l k w) := by
  obtain ⟨q1, q2⟩ := okV_yes 4 l k (((strip l).length : Nat), strip l) (((strip k).length : Nat), strip k) rfl rfl
  rw [cmpK_bin] at q2
  obtain ⟨R, hR⟩ : ∃ R, R = cV 4 l k := ⟨_, rfl⟩
  rw [← hR] at q2
  unfold CmpP
  rw [q1, ← hR]
  have HR := Lib.hid q2
  clear q1 q2 hR
  go_enter Tryd.func43, Tryd.ntmps43
  go_wp2_with fail
  refine (trim_any _ _ _ _ _ h1 hn).mono ?_
  rintro e w' ⟨a1, n1, c1, rfl, s1, rfl⟩
  go_wp2_with fail
  refine (trim_any _ _ _ _ _ h2 hm).mono ?_
  rintro e w' ⟨b1, m1, d1, rfl, s2, rfl⟩
  have HR2 := Lib.hid HR.out
  rw [← s1.1, ← s2.1] at HR2
  obtain ⟨Z, hZ⟩ : ∃ Z, Z = cmpZ n1 m1 := ⟨_, rfl⟩
  obtain ⟨B, hB⟩ : ∃ B, B = bcmp (strip l) (strip k) := ⟨_, rfl⟩
  rw [← hZ, ← hB] at HR2
  have HZ := Lib.hid hZ
  have HB := Lib.hid hB
  clear hZ hB HR
  go_wp2_with fail
  refine (cmpI_any _ _ _).mono ?_
  rintro e w' ⟨rfl, rfl⟩
  rw [← HZ.out]
  go_wp2_with fail
  refine (bytesCmp_any _ _ _ _ _ _ _ _ _ s1 s2).mono ?_
  rintro e w' ⟨rfl, rfl⟩
  rw [← HB.out]
  go_wp2_with fail
  refine (or_any Z B _ _ _ (by go_side) (by go_side)).mono ?_
  rintro e w' ⟨rfl, rfl⟩
  rw [← HR2.out]
  go_wp2_with fail
  go_ret2
  exact ⟨rfl, (Below.refl _ _).alloc (Nat.le_refl _) _⟩
end Go.Proofs.YtoadpeigomkgiaaDoor

/- the document's dates: two, Days, ahead: what they compute. -/
import Derived.Test.YtoadpeigomkgiaaDoorODate3
namespace Go.Proofs.YtoadpeigomkgiaaDoor
open Go.RowKit

def twoB (a b : UInt8) : Bool := isD a && isD b
def twoV (a b : UInt8) : Int := if twoB a b then (two2 a b : Nat) else 0

set_option maxHeartbeats 1600000 in
theorem two_any (a : Option Addr) (len cap : Nat) (l : List UInt8) (at' : Int) (c1 c2 : UInt8) (w : World) (hs : Sl w a len cap l) (h0 : 0 ≤ at') (h1 : at' + 2 ≤ (len : Int)) (hl : len ≤ 100) (g1 : l.getD at'.toNat 0 = c1) (g2 : l.getD (at'.toNat + 1) 0 = c2) :
    Calls Tryd.prog 46 #[.slice a len cap, .int .i64 at'] w fun e w' => e = .returned (.tuple #[.int .i64 (twoV c1 c2), .bool (twoB c1 c2)]) ∧ Below w.heap.size w w' := by
  obtain ⟨n, rfl⟩ := Int.eq_ofNat_of_zero_le h0
  rw [Int.toNat_natCast] at g1 g2
  obtain ⟨b, o, rfl, hcc, _⟩ := hs.some (by omega)
  have k0 := hcc n (by omega)
  have k1 := hcc (n + 1) (by omega)
  rw [g1] at k0
  rw [g2] at k1
  have b1 := c1.toNat_lt
  have b2 := c2.toNat_lt
  have hlc := hs.2.1
  obtain ⟨R, hR⟩ : ∃ R, R = twoB c1 c2 := ⟨_, rfl⟩
  obtain ⟨V, hV⟩ : ∃ V, V = twoV c1 c2 := ⟨_, rfl⟩
  rw [← hR, ← hV]
  have HR := Lib.hid hR
  have HV := Lib.hid hV
  clear hcc g1 g2 hs hR hV h0
  have fin : Hid (R = false → V = 0) := Lib.hid (by intro h; rw [HV.out, twoV, ← HR.out, h]; rfl)
  by_cases x1 : c1.toNat < 48
  · have HE := Lib.hid (show R = false by rw [HR.out, twoB, (isD_not c1).2 (by omega)]; rfl)
    have HZ := Lib.hid (fin.out HE.out)
    replace x1 : (c1.toNat : Int) < 48 := by omega
    go_enter Tryd.func46, Tryd.ntmps46
    go_wp2_with fail
    go_ret2
    exact ⟨by rw [HE.out, HZ.out]; rfl, Below.refl _ _⟩
  · by_cases x2 : 57 < c1.toNat
    · have HE := Lib.hid (show R = false by rw [HR.out, twoB, (isD_not c1).2 (by omega)]; rfl)
      have HZ := Lib.hid (fin.out HE.out)
      replace x1 : (48 : Int) ≤ (c1.toNat : Int) := by omega
      replace x2 : (57 : Int) < (c1.toNat : Int) := by omega
      go_enter Tryd.func46, Tryd.ntmps46
      go_wp2_with fail
      go_ret2
      exact ⟨by rw [HE.out, HZ.out]; rfl, Below.refl _ _⟩
    · replace x1 : (48 : Int) ≤ (c1.toNat : Int) := by omega
      replace x2 : (c1.toNat : Int) ≤ 57 := by omega
      by_cases x3 : c2.toNat < 48
      · have HE := Lib.hid (show R = false by rw [HR.out, twoB, (isD_not c2).2 (by omega)]; simp)
        have HZ := Lib.hid (fin.out HE.out)
        replace x3 : (c2.toNat : Int) < 48 := by omega
        go_enter Tryd.func46, Tryd.ntmps46
        go_wp2_with fail
        go_ret2
        exact ⟨by rw [HE.out, HZ.out]; rfl, Below.refl _ _⟩
      · replace x3 : (48 : Int) ≤ (c2.toNat : Int) := by omega
        by_cases x4 : 57 < c2.toNat
        · have HE := Lib.hid (show R = false by rw [HR.out, twoB, (isD_not c2).2 (by omega)]; simp)
          have HZ := Lib.hid (fin.out HE.out)
          replace x4 : (57 : Int) < (c2.toNat : Int) := by omega
          go_enter Tryd.func46, Tryd.ntmps46
          go_wp2_with fail
          go_ret2
          exact ⟨by rw [HE.out, HZ.out]; rfl, Below.refl _ _⟩
        · replace x4 : (c2.toNat : Int) ≤ 57 := by omega
          have HE := Lib.hid (show R = true by rw [HR.out, twoB, (isD_iff c1).2 (by omega), (isD_iff c2).2 (by omega)]; rfl)
          obtain ⟨x, hx⟩ : ∃ x, x = dg c1 := ⟨_, rfl⟩
          obtain ⟨y, hy⟩ : ∃ y, y = dg c2 := ⟨_, rfl⟩
          have HZ := Lib.hid (show V = 10 * (x : Int) + (y : Int) by rw [HV.out, twoV, ← HR.out, HE.out, if_pos rfl, two2, ← hx, ← hy]; omega)
          have bx : x ≤ 9 := by rw [hx]; unfold dg; omega
          have byy : y ≤ 9 := by rw [hy]; unfold dg; omega
          have q1 : IntKind.u8.wrap ((c1.toNat : Int) - 48) = (x : Int) := by rw [IntKind.wrap_u8, hx]; unfold dg; omega
          have q2 : IntKind.u8.wrap ((c2.toNat : Int) - 48) = (y : Int) := by rw [IntKind.wrap_u8, hy]; unfold dg; omega
          have q3 : IntKind.i64.wrap (x : Int) = (x : Int) := by rw [IntKind.wrap_i64]; omega
          have q4 : IntKind.i64.wrap (y : Int) = (y : Int) := by rw [IntKind.wrap_i64]; omega
          have q5 : IntKind.i64.wrap (10 * (x : Int)) = 10 * (x : Int) := by rw [IntKind.wrap_i64]; omega
          have q6 : IntKind.i64.wrap (10 * (x : Int) + (y : Int)) = 10 * (x : Int) + (y : Int) := by rw [IntKind.wrap_i64]; omega
          have q7 : IntKind.i64.wrap ((n : Int) + 1) = (n : Int) + 1 := by rw [IntKind.wrap_i64]; omega
          have q8 : ((n : Int) + 1).toNat = n + 1 := by omega
          have q9 : (0 : Int) ≤ (n : Int) + 1 := by omega
          have q10 : (n : Int) + 1 < (len : Int) := by omega
          have q11 : (n : Int) < (len : Int) := by omega
          clear hx hy
          go_enter Tryd.func46, Tryd.ntmps46
          go_wp2_with fail
          go_quiet (fail)
          go_wp2_with fail
          go_ret2
          exact ⟨by rw [HE.out, HZ.out]; rfl, below_drewN (Below.refl _ _) _⟩

set_option maxHeartbeats 1600000 in
theorem refDays_any (y m : Int) (w : World) (h0 : 0 ≤ y) (h1 : 1 ≤ m) (h2 : m ≤ 12) : Calls Tryd.prog 47 #[.int .i64 y, .int .i64 m] w fun e w' => e = .returned (.int .i64 (dim y m)) ∧ Below w.heap.size w w' := by
  obtain ⟨R, hR⟩ : ∃ R, R = dim y m := ⟨_, rfl⟩
  rw [← hR]
  have HR := Lib.hid hR
  clear hR
  have hcase : m = 1 ∨ m = 2 ∨ m = 3 ∨ m = 4 ∨ m = 5 ∨ m = 6 ∨ m = 7 ∨ m = 8 ∨ m = 9 ∨ m = 10 ∨ m = 11 ∨ m = 12 := by omega
  have hB : ∀ o, Below w.heap.size w (w.alloc o) := fun o => (Below.refl _ _).alloc (Nat.le_refl _) o
  rcases hcase with rfl | rfl | rfl | rfl | rfl | rfl | rfl | rfl | rfl | rfl | rfl | rfl
  · have HE := Lib.hid (show R = 31 by rw [HR.out]; rfl)
    go_enter Tryd.func47, Tryd.ntmps47
    go_wp2_with fail
    go_ret
    exact ⟨by rw [HE.out]; rfl, hB _⟩
  · by_cases h400 : y % 400 = 0
    · have h4 : y % 4 = 0 := by omega
      have HE := Lib.hid (show R = 29 by rw [HR.out]; simp [dim, lp, lpB, h4, h400])
      have q400 : (y % 400 == 0) = true := by simpa using h400
      clear h400 h4
      go_enter Tryd.func47, Tryd.ntmps47
      go_wp2_with fail
      go_ret
      exact ⟨by rw [HE.out]; rfl, hB _⟩
    · by_cases h4 : y % 4 = 0
      · by_cases h100 : y % 100 = 0
        · have HE := Lib.hid (show R = 28 by rw [HR.out]; simp [dim, lp, lpB, h4, h100, h400])
          have q400 : (y % 400 == 0) = false := by simpa using h400
          have q4 : (y % 4 == 0) = true := by simpa using h4
          have q100 : (y % 100 != 0) = false := by simpa using h100
          clear h400 h4 h100
          go_enter Tryd.func47, Tryd.ntmps47
          go_wp2_with fail
          go_ret
          exact ⟨by rw [HE.out]; rfl, hB _⟩
        · have HE := Lib.hid (show R = 29 by rw [HR.out]; simp [dim, lp, lpB, h4, h100])
          have q400 : (y % 400 == 0) = false := by simpa using h400
          have q4 : (y % 4 == 0) = true := by simpa using h4
          have q100 : (y % 100 != 0) = true := by simpa using h100
          clear h400 h4 h100
          go_enter Tryd.func47, Tryd.ntmps47
          go_wp2_with fail
          go_ret
          exact ⟨by rw [HE.out]; rfl, hB _⟩
      · have HE := Lib.hid (show R = 28 by rw [HR.out]; simp [dim, lp, lpB, h4])
        have q400 : (y % 400 == 0) = false := by simpa using h400
        have q4 : (y % 4 == 0) = false := by simpa using h4
        clear h400 h4
        go_enter Tryd.func47, Tryd.ntmps47
        go_wp2_with fail
        go_ret
        exact ⟨by rw [HE.out]; rfl, hB _⟩
  · have HE := Lib.hid (show R = 31 by rw [HR.out]; rfl)
    go_enter Tryd.func47, Tryd.ntmps47
    go_wp2_with fail
    go_ret
    exact ⟨by rw [HE.out]; rfl, hB _⟩
  · have HE := Lib.hid (show R = 30 by rw [HR.out]; rfl)
    go_enter Tryd.func47, Tryd.ntmps47
    go_wp2_with fail
    go_ret
    exact ⟨by rw [HE.out]; rfl, hB _⟩
  · have HE := Lib.hid (show R = 31 by rw [HR.out]; rfl)
    go_enter Tryd.func47, Tryd.ntmps47
    go_wp2_with fail
    go_ret
    exact ⟨by rw [HE.out]; rfl, hB _⟩
  · have HE := Lib.hid (show R = 30 by rw [HR.out]; rfl)
    go_enter Tryd.func47, Tryd.ntmps47
    go_wp2_with fail
    go_ret
    exact ⟨by rw [HE.out]; rfl, hB _⟩
  · have HE := Lib.hid (show R = 31 by rw [HR.out]; rfl)
    go_enter Tryd.func47, Tryd.ntmps47
    go_wp2_with fail
    go_ret
    exact ⟨by rw [HE.out]; rfl, hB _⟩
  · have HE := Lib.hid (show R = 31 by rw [HR.out]; rfl)
    go_enter Tryd.func47, Tryd.ntmps47
    go_wp2_with fail
    go_ret
    exact ⟨by rw [HE.out]; rfl, hB _⟩
  · have HE := Lib.hid (show R = 30 by rw [HR.out]; rfl)
    go_enter Tryd.func47, Tryd.ntmps47
    go_wp2_with fail
    go_ret
    exact ⟨by rw [HE.out]; rfl, hB _⟩
  · have HE := Lib.hid (show R = 31 by rw [HR.out]; rfl)
    go_enter Tryd.func47, Tryd.ntmps47
    go_wp2_with fail
    go_ret
    exact ⟨by rw [HE.out]; rfl, hB _⟩
  · have HE := Lib.hid (show R = 30 by rw [HR.out]; rfl)
    go_enter Tryd.func47, Tryd.ntmps47
    go_wp2_with fail
    go_ret
    exact ⟨by rw [HE.out]; rfl, hB _⟩
  · have HE := Lib.hid (show R = 31 by rw [HR.out]; rfl)
    go_enter Tryd.func47, Tryd.ntmps47
    go_wp2_with fail
    go_ret
    exact ⟨by rw [HE.out]; rfl, hB _⟩

set_option maxHeartbeats 1600000 in
theorem refahead_any (y : Int) (w : World) (h0 : 0 ≤ y) (h1 : y ≤ 100000) : Calls Tryd.prog 48 #[.int .i64 y] w fun e w' => e = .returned (.int .i64 (dby y)) ∧ Below w.heap.size w w' := by
  obtain ⟨q, hq⟩ : ∃ q, q = y / 400 := ⟨_, rfl⟩
  obtain ⟨s, hsE⟩ : ∃ s, s = y - y % 400 := ⟨_, rfl⟩
  have b1 : 0 ≤ q := by omega
  have b2 : q ≤ 250 := by omega
  have b3 : 0 ≤ s := by omega
  have b4 : s ≤ y := by omega
  have HQ := Lib.hid (show dby s = q * 146097 by rw [show s = 400 * q by omega, dby_four]; omega)
  have q1 := hq.symm
  have q2 := hsE.symm
  clear hq hsE
  go_enter Tryd.func48, Tryd.ntmps48
  go_wp2_with fail
  go_loopw [3, 4] (fun n k wr => ∃ j : Int, s ≤ j ∧ j ≤ y ∧ k = .int .i64 j ∧ n = .int .i64 (dby j) ∧ Below w.heap.size w wr) (fun _ k _ => (y - intOf k).toNat)
  case atStart => exact ⟨s, by omega, b4, rfl, by rw [HQ.out], Below.refl _ _⟩
  case round =>
    obtain ⟨j, hj1, hj2, rfl, rfl, hW⟩ := hrel
    clear q1 q2
    have HD := Lib.hid (dby_succ j)
    have bd : 0 ≤ dby j ∧ dby j ≤ 40000000 := by unfold dby; omega
    obtain ⟨N, hN⟩ : ∃ N, N = dby j := ⟨_, rfl⟩
    rw [← hN]
    rw [← hN] at bd HD
    have HN := Lib.hid hN
    clear hN
    by_cases hlt : j < y
    · have hd : dim j 2 = 28 + lp j := by simp [dim]
      have lb := lp_01 j
      go_wp2_with fail
      refine (refDays_any _ _ _ (by omega) (by omega) (by omega)).mono ?_
      rintro e w1 ⟨rfl, hb1⟩
      rw [hd]
      clear hd
      obtain ⟨P, hP⟩ : ∃ P, P = lp j := ⟨_, rfl⟩
      rw [← hP]
      rw [← hP] at lb HD
      clear hP
      have hW1 := hW.trans (hb1.mono hW.size)
      go_wp2_with fail
      go_roundw
      case rel => exact ⟨j + 1, by omega, by omega, by go_num, by rw [HD.out]; go_num, hW1⟩
      case measure => simp [intOf]; omega
    · obtain rfl : j = y := by omega
      go_wp2_with fail
      go_ret
      exact ⟨by rw [← HN.out]; rfl, hW⟩
end Go.Proofs.YtoadpeigomkgiaaDoor

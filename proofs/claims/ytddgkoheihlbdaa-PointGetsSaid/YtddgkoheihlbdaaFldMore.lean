/- field: sum.more: what it computes. -/
import Derived.Test.YtddgkoheihlbdaaShelf
import Derived.Test.YtddgkoheihlbdaaFld7
import Derived.Laws.Externs
namespace Go.Proofs.Ytddgkoheihlbdaa
open Go.RowKit

theorem run_Add64 (x y : Nat) (hx : x < 18446744073709551616) (hy : y < 18446744073709551616) (w : World) :
    (callFunc 71 #[.int .u64 x, .int .u64 y, .int .u64 0]).run Try.prog w = .ok (.value (.tuple #[.int .u64 ((x + y) % 18446744073709551616 : Nat), .int .u64 ((x + y) / 18446744073709551616 : Nat)])) w := by
  rw [run_callFunc_extern Try.func71 (by kernel_rfl) (by kernel_rfl) (by kernel_rfl) (show _ = some add64Entry by rfl) _ w,
    run_add64 _ _ _ (by omega) (by omega) (by omega) (by omega)]
  congr 5 <;> omega

/-- a number of 128 bits, as a value -/
abbrev sumV (v : Nat) : Value := .agg #[.int .u64 (v / 18446744073709551616 : Nat), .int .u64 (v % 18446744073709551616 : Nat)]

set_option maxRecDepth 100000 in
set_option maxHeartbeats 1000000 in
theorem more_any (v a b : Nat) (w : World) (ha : a < 18446744073709551616) (hb : b < 18446744073709551616) (hv : v + a * b < 340282366920938463463374607431768211456) :
    Calls Try.prog 70 #[sumV v, .int .u64 a, .int .u64 b] w fun e w' => e = .returned (sumV (v + a * b)) ∧ Below w.heap.size w w' := by
  have HM := Lib.hid (fun w : World => Try.bits_Mul64 a b ha hb w)
  obtain ⟨p, hp⟩ : ∃ p, p = a * b := ⟨_, rfl⟩
  rw [← hp] at hv HM ⊢
  clear hp
  obtain ⟨H, hH⟩ : ∃ H, H = v / 18446744073709551616 := ⟨_, rfl⟩
  obtain ⟨L, hL⟩ : ∃ L, L = v % 18446744073709551616 := ⟨_, rfl⟩
  obtain ⟨h, hh⟩ : ∃ h, h = p / 18446744073709551616 := ⟨_, rfl⟩
  obtain ⟨l, hl⟩ : ∃ l, l = p % 18446744073709551616 := ⟨_, rfl⟩
  rw [← hh, ← hl] at HM
  have hadd := fun w => run_Add64 L l (by omega) (by omega) w
  obtain ⟨r, hr⟩ : ∃ r, r = (L + l) % 18446744073709551616 := ⟨_, rfl⟩
  obtain ⟨c, hc⟩ : ∃ c, c = (L + l) / 18446744073709551616 := ⟨_, rfl⟩
  rw [← hr, ← hc] at hadd
  have e1 : (v + p) % 18446744073709551616 = r := by omega
  have e2 : (v + p) / 18446744073709551616 = H + (h + c) := by omega
  have HE1 := Lib.hid e1
  have HE2 := Lib.hid e2
  have b1 : H + (h + c) < 18446744073709551616 := by omega
  obtain ⟨s, hs⟩ : ∃ s, s = h + c := ⟨_, rfl⟩
  obtain ⟨t, ht⟩ : ∃ t, t = H + s := ⟨_, rfl⟩
  have m1 : (h : Int) + (c : Int) = (s : Int) := by omega
  have m2 : (H : Int) + (s : Int) = (t : Int) := by omega
  have HT := Lib.hid (show (v + p) / 18446744073709551616 = t by omega)
  have b2 : t < 18446744073709551616 := by omega
  unfold sumV
  rw [← hH, ← hL]
  have HADD := Lib.hid hadd
  clear hH hL hh hl hr hc e1 e2 hs ht ha hb hv hadd
  go_enter Try.func70, Try.ntmps70
  go_wp2_with fail
  refine (HM.out _).mono ?_
  rintro e w1 ⟨rfl, rfl⟩
  have hadd := HADD.out
  go_wp2_with fail
  exact bodyPost_ret (v := .agg #[.int .u64 t, .int .u64 r]) (by simp [results, Try.results70, go_sem]) rfl ⟨by rw [HT.out, HE1.out], by
    repeat (first | exact (Below.refl _ _) | refine Below.alloc ?_ (by simp) _ | refine Below.setCell ?_ (by simp) _)⟩
end Go.Proofs.Ytddgkoheihlbdaa

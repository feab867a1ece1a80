/- field: Of, carry, reduced: what they compute. -/
import Derived.Test.YtddgkoheihlbdaaFldMath
import Derived.Test.YtddgkoheihlbdaaRows
import Derived.WalkKit
import Derived.Handy
import Derived.Lib.Hide
import Derived.WalkLawsBesides
import Derived.Deep.QuietTactic
import Derived.BigQuiet
namespace Go.Proofs.Ytddgkoheihlbdaa
open Go.RowKit

/-- an element's five limbs, as a value -/
abbrev L5.v (x : L5) : Value := .agg #[.int .u64 x.a, .int .u64 x.b, .int .u64 x.c, .int .u64 x.d, .int .u64 x.e]

theorem and51 (x : Nat) (h : x < 18446744073709551616) : bits BinOp.and IntKind.u64 (x : Int) 2251799813685247 = ((low x : Nat) : Int) := by
  rw [show (2251799813685247 : Int) = ((2251799813685247 : Nat) : Int) from rfl, u64_and_nat _ _ h (by omega)]
  congr 1
  exact Nat.and_two_pow_sub_one_eq_mod x 51
theorem div51 (x : Nat) : (x : Int) / 2251799813685248 = ((car x : Nat) : Int) := by unfold car; omega

set_option maxHeartbeats 1000000 in
theorem of_any (n : Nat) (w : World) (hn : n < 18446744073709551616) :
    Calls Try.prog 20 #[.int .u64 n] w fun e w' => e = .returned (L5.v ⟨low n, car n, 0, 0, 0⟩) ∧ Below w.heap.size w w' := by
  have h := and51 n hn
  have q := div51 n
  obtain ⟨x, hx⟩ : ∃ x, x = low n := ⟨_, rfl⟩
  obtain ⟨y, hy⟩ : ∃ y, y = car n := ⟨_, rfl⟩
  rw [← hx] at h ⊢
  rw [← hy] at q ⊢
  clear hx hy
  go_enter Try.func20, Try.ntmps20
  go_wp2_with fail
  exact bodyPost_ret (v := .agg #[.int .u64 x, .int .u64 y, .int .u64 0, .int .u64 0, .int .u64 0]) (by simp [results, Try.results20, go_sem]) rfl ⟨rfl, (Below.refl _ _).alloc (Nat.le_refl _) _⟩

set_option maxHeartbeats 2000000 in
theorem carry_any (x : L5) (w : World) (h : x.lt 9223372036854775808) :
    Calls Try.prog 69 #[x.v] w fun e w' => e = .returned x.cry.v ∧ Below w.heap.size w w' := by
  have hb := c5_bd x h
  obtain ⟨a, b, c, d, e⟩ := x
  obtain ⟨h1, h2, h3, h4, h5⟩ := h
  simp only at h1 h2 h3 h4 h5
  obtain ⟨c1, hc1⟩ : ∃ y, y = car a := ⟨_, rfl⟩
  obtain ⟨r0, hr0⟩ : ∃ y, y = low a := ⟨_, rfl⟩
  have k1 : c1 ≤ 4097 := by rw [hc1]; unfold car; omega
  have m0 : r0 < 2251799813685248 := by rw [hr0]; exact low_lt _
  have e0 := div51 a
  have f0 := and51 a (by omega)
  rw [← hc1] at e0
  rw [← hr0] at f0
  obtain ⟨t1, ht1⟩ : ∃ y, y = b + c1 := ⟨_, rfl⟩
  have s1 : (b : Int) + (c1 : Int) = (t1 : Int) := by omega
  have u1 : t1 < 9223372036854800000 := by omega
  obtain ⟨c2, hc2⟩ : ∃ y, y = car t1 := ⟨_, rfl⟩
  obtain ⟨r1, hr1⟩ : ∃ y, y = low t1 := ⟨_, rfl⟩
  have k2 : c2 ≤ 4097 := by rw [hc2]; unfold car; omega
  have m1 : r1 < 2251799813685248 := by rw [hr1]; exact low_lt _
  have e1 := div51 t1
  have f1 := and51 t1 (by omega)
  rw [← hc2] at e1
  rw [← hr1] at f1
  obtain ⟨t2, ht2⟩ : ∃ y, y = c + c2 := ⟨_, rfl⟩
  have s2 : (c : Int) + (c2 : Int) = (t2 : Int) := by omega
  have u2 : t2 < 9223372036854800000 := by omega
  obtain ⟨c3, hc3⟩ : ∃ y, y = car t2 := ⟨_, rfl⟩
  obtain ⟨r2, hr2⟩ : ∃ y, y = low t2 := ⟨_, rfl⟩
  have k3 : c3 ≤ 4097 := by rw [hc3]; unfold car; omega
  have m2 : r2 < 2251799813685248 := by rw [hr2]; exact low_lt _
  have e2 := div51 t2
  have f2 := and51 t2 (by omega)
  rw [← hc3] at e2
  rw [← hr2] at f2
  obtain ⟨t3, ht3⟩ : ∃ y, y = d + c3 := ⟨_, rfl⟩
  have s3 : (d : Int) + (c3 : Int) = (t3 : Int) := by omega
  have u3 : t3 < 9223372036854800000 := by omega
  obtain ⟨c4, hc4⟩ : ∃ y, y = car t3 := ⟨_, rfl⟩
  obtain ⟨r3, hr3⟩ : ∃ y, y = low t3 := ⟨_, rfl⟩
  have k4 : c4 ≤ 4097 := by rw [hc4]; unfold car; omega
  have m3 : r3 < 2251799813685248 := by rw [hr3]; exact low_lt _
  have e3 := div51 t3
  have f3 := and51 t3 (by omega)
  rw [← hc4] at e3
  rw [← hr3] at f3
  obtain ⟨t4, ht4⟩ : ∃ y, y = e + c4 := ⟨_, rfl⟩
  have s4 : (e : Int) + (c4 : Int) = (t4 : Int) := by omega
  have u4 : t4 < 9223372036854800000 := by omega
  obtain ⟨c5, hc5⟩ : ∃ y, y = car t4 := ⟨_, rfl⟩
  obtain ⟨r4, hr4⟩ : ∃ y, y = low t4 := ⟨_, rfl⟩
  have k5 : c5 ≤ 4097 := by rw [hc5]; unfold car; omega
  have m4 : r4 < 2251799813685248 := by rw [hr4]; exact low_lt _
  have e4 := div51 t4
  have f4 := and51 t4 (by omega)
  rw [← hc5] at e4
  rw [← hr4] at f4
  have HX := Lib.hid (show (L5.mk a b c d e).cry = ⟨r0 + 19 * c5, r1, r2, r3, r4⟩ by
    simp only [L5.cry, L5.c5, L5.c4, L5.c3, L5.c2, L5.c1, ← hc1, ← ht1, ← hc2, ← ht2, ← hc3, ← ht3, ← hc4, ← ht4, ← hc5, ← hr0, ← hr1, ← hr2, ← hr3, ← hr4])
  rw [HX.out]
  obtain ⟨z, hz⟩ : ∃ z, z = r0 + 19 * c5 := ⟨_, rfl⟩
  have sz : (r0 : Int) + 19 * (c5 : Int) = (z : Int) := by omega
  rw [← hz]
  clear hb hc1 hc2 hc3 hc4 hc5 ht1 ht2 ht3 ht4 hr0 hr1 hr2 hr3 hr4 hz HX
  go_enter Try.func69, Try.ntmps69
  go_wp2_with fail
  refine wp_loop_rounds 6 ?_
  rw [rounds_succ]
  go_wp2_with fail
  rw [rounds_succ]
  go_wp2_with fail
  rw [rounds_succ]
  go_wp2_with fail
  rw [rounds_succ]
  go_wp2_with fail
  rw [rounds_succ]
  go_wp2_with fail
  rw [rounds_succ]
  go_wp2_with fail
  exact bodyPost_ret (v := .agg #[.int .u64 z, .int .u64 r1, .int .u64 r2, .int .u64 r3, .int .u64 r4]) (by simp [results, Try.results69, go_sem]) rfl ⟨rfl, ((Below.refl _ _).alloc (Nat.le_refl _) _).alloc (by simp) _⟩
end Go.Proofs.Ytddgkoheihlbdaa

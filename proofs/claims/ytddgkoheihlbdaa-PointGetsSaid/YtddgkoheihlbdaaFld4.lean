/- field: Odd: what it computes. -/
import Derived.Test.YtddgkoheihlbdaaFld3
namespace Go.Proofs.Ytddgkoheihlbdaa
open Go.RowKit

theorem red_lt (x : L5) : x.val % P25 < 2 ^ 255 := by
  have : x.val % P25 < P25 := Nat.mod_lt _ (by unfold P25; omega)
  unfold P25 at *
  omega

theorem byte0_odd (n : Nat) (h : n < 2 ^ 255) : byteAt n 255 0 % 2 = n % 2 := by
  rw [byteAt_end n 0 h]; omega

theorem run_index_array {P : Program} {w : World} (t e : TypeId) (n : Nat) (cs : Array Value) (k : IntKind) (i : Nat) (v : Value) (h : P.underlying t = some (.array n e)) (hi : i < n) (hv : cs[i]? = some v) (hz : (sizeOf e).run P w = .ok 1 w) (hp : (isAgg e).run P w = .ok false w) :
    (Instr.index t (.agg cs) (.int k i)).run P w = .ok v w := by
  simp [Instr.index, run_underlying h, asIntOf, go_sem, hi, hz, hp, hv]

set_option maxRecDepth 100000 in
set_option maxHeartbeats 1000000 in
theorem odd_any (x : L5) (w : World) (h : x.lt 9223372036854775808) :
    Calls Try.prog 25 #[x.v] w fun e w' => e = .returned (.bool (x.val % P25 % 2 == 1)) ∧ Below w.heap.size w w' := by
  have hlt := red_lt x
  have hod := byte0_odd _ hlt
  have hb := byteAt_lt (x.val % P25) 255 0
  have hg := bArr_get (x.val % P25) 255 0 (by omega)
  have hs := bArr_size (x.val % P25) 255
  rw [← hod]
  obtain ⟨C, hC⟩ : ∃ C, C = bArr (x.val % P25) 255 := ⟨_, rfl⟩
  obtain ⟨y, hy⟩ : ∃ y, y = byteAt (x.val % P25) 255 0 := ⟨_, rfl⟩
  rw [← hC, ← hy] at hg
  rw [← hC] at hs
  rw [← hy] at hb ⊢
  have HC := Lib.hid hC
  have HB := Lib.hid h
  clear hod hlt hC hy h
  obtain ⟨z, hz⟩ : ∃ z, z = y % 2 := ⟨_, rfl⟩
  have m1 : bits BinOp.and IntKind.u8 (y : Int) 1 = (z : Int) := by
    rw [show (1 : Int) = ((1 : Nat) : Int) from rfl, u8_and_nat _ _ (by omega) (by omega), Nat.and_one_is_mod, hz]
  rw [← hz]
  have m2 : ((z : Int) == 1) = (z == 1) := by
    rw [Bool.eq_iff_iff]; simp; omega
  clear hz hb
  obtain ⟨x0, y0, z0, u0, v0⟩ := x
  go_enter Try.func25, Try.ntmps25
  go_wp2_with fail
  refine (bytes_any ⟨x0, y0, z0, u0, v0⟩ _ HB.out).mono ?_
  rintro q w1 ⟨rfl, hb1⟩
  rw [← HC.out]
  have hW := ((Below.refl w.heap.size w).alloc (Nat.le_refl _) _).trans (hb1.mono (by simp))
  have i0 : (Instr.index 40 (.agg C) (.int .i64 0)).run Try.prog w1 = .ok (.int .u8 y) w1 :=
    run_index_array _ 5 32 C .i64 0 _ (by kernel_rfl) (by omega) hg (by simp [go_sem]) (by simp [go_sem])
  clear hg hs
  go_wp2_with fail
  go_ret
  exact ⟨rfl, hW⟩
end Go.Proofs.Ytddgkoheihlbdaa

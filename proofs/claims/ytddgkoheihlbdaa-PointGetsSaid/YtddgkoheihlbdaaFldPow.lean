/- field: power: what it computes. -/
import Derived.Test.YtddgkoheihlbdaaFldSums
namespace Go.Proofs.Ytddgkoheihlbdaa
open Go.RowKit

theorem el_one : El (ofL 1) 1 := ⟨lt_mono (ofL_lt 1 (by decide)) (by omega), by unfold P25; omega, by rw [ofL_val]; rfl⟩
/-- u to the power of e -/
def pw (u e : Nat) : Nat := u ^ e % P25
theorem pw_sq (u e : Nat) : pw u e * pw u e % P25 = pw u (2 * e) := by
  unfold pw; rw [← Nat.mul_mod, ← Nat.pow_add, Nat.two_mul]
theorem pw_more (u e : Nat) : pw u e * u % P25 = pw u (e + 1) := by
  unfold pw; rw [Nat.mod_mul_mod, Nat.pow_succ]
theorem half_step (e k : Nat) : e / 2 ^ k = 2 * (e / 2 ^ (k + 1)) + e / 2 ^ k % 2 := by
  rw [Nat.pow_succ, ← Nat.div_div_eq_div_mul]; omega
theorem low_bit (n l k : Nat) (h1 : 1 ≤ l) (h2 : l < 18446744073709551616) (h3 : 64 ≤ n) (hk : k < 64) : (18446744073709551616 - l) / 2 ^ k % 2 = (2 ^ n - l) / 2 ^ k % 2 := by
  obtain ⟨m, rfl⟩ : ∃ m, n = 64 + m := ⟨n - 64, by omega⟩
  have e : 2 ^ (64 + m) - l = (18446744073709551616 - l) + 2 ^ 64 * (2 ^ m - 1) := by
    have h0 : 0 < 2 ^ m := Nat.pow_pos (by omega)
    rw [Nat.pow_add, Nat.mul_sub]
    have : (2 : Nat) ^ 64 * 1 ≤ 2 ^ 64 * 2 ^ m := Nat.mul_le_mul_left _ h0
    have e64 : (2 : Nat) ^ 64 = 18446744073709551616 := rfl
    omega
  have hm : (2 ^ (64 + m) - l) % 2 ^ 64 = 18446744073709551616 - l := by
    rw [e, Nat.add_mul_mod_self_left]
    exact Nat.mod_eq_of_lt (by have e64 : (2 : Nat) ^ 64 = 18446744073709551616 := rfl; omega)
  rw [← hm, bit_mod _ _ _ hk]
theorem high_bit (n l k : Nat) (h1 : 1 ≤ l) (h2 : l < 18446744073709551616) (hk : 64 ≤ k) (hkn : k < n) : (2 ^ n - l) / 2 ^ k % 2 = 1 := by
  obtain ⟨m, rfl⟩ : ∃ m, n = k + 1 + m := ⟨n - k - 1, by omega⟩
  have hl : l ≤ 2 ^ k := Nat.le_trans (Nat.le_of_lt h2) (Nat.pow_le_pow_right (n := 2) (by omega) hk)
  have h0 : 0 < 2 ^ m := Nat.pow_pos (by omega)
  have e : 2 ^ (k + 1 + m) - l = (2 ^ k - l) + 2 ^ k * (2 * 2 ^ m - 1) := by
    rw [Nat.pow_add, Nat.pow_succ, Nat.mul_sub, Nat.mul_assoc]
    have : (2 : Nat) ^ k * 1 ≤ 2 ^ k * (2 * 2 ^ m) := Nat.mul_le_mul_left _ (by omega)
    omega
  rw [e, Nat.add_mul_div_left _ _ (Nat.pow_pos (by omega))]
  rw [Nat.div_eq_of_lt (by have : 0 < 2 ^ k := Nat.pow_pos (by omega); omega)]
  omega

set_option maxRecDepth 100000 in
set_option maxHeartbeats 2000000 in
theorem power_any (x : L5) (u n l : Nat) (w : World) (hx : El x u) (h1 : 1 ≤ l) (h2 : l < 18446744073709551616) (h3 : 64 ≤ n) (h4 : n ≤ 255) :
    Calls Try.prog 74 #[.agg (gArr x.at), .int .i64 n, .int .u64 l] w fun e w' => ∃ z : L5, e = .returned (.agg (gArr z.at)) ∧ El z (pw u (2 ^ n - l)) ∧ Below w.heap.size w w' := by
  have hE : 2 ^ n - l < 2 ^ n := by
    have : 0 < 2 ^ n := Nat.pow_pos (by omega)
    omega
  have HX := Lib.hid hx
  have HLO := Lib.hid (fun k hk => low_bit n l k h1 h2 h3 hk)
  have HHI := Lib.hid (fun k hk hkn => high_bit n l k h1 h2 hk hkn)
  obtain ⟨M, hM⟩ : ∃ M, M = 18446744073709551616 - l := ⟨_, rfl⟩
  rw [← hM] at HLO
  have eM : IntKind.u64.wrap (-(l : Int)) = (M : Int) := by rw [IntKind.wrap_u64]; omega
  have hMl : M < 18446744073709551616 := by omega
  obtain ⟨T, hT⟩ : ∃ T, T = 2 ^ n - l := ⟨_, rfl⟩
  rw [← hT] at HLO HHI hE ⊢
  have H0 := Lib.hid (show T / 2 ^ n = 0 from Nat.div_eq_of_lt hE)
  clear hE hT hM hx h1
  have HON := Lib.hid (of_g 1 (by decide))
  go_enter Try.func74, Try.ntmps74
  go_upto_region 1 with fail
  have g0 : Box ((w.alloc (.cells (gArr x.at) 27)).alloc (.cells #[.int .u64 0, .int .u64 0, .int .u64 0, .int .u64 0, .int .u64 0] 27)) w.heap.size 27 (gArr x.at) := (Box.new _ _ _).alloc _
  have g1 : Box ((w.alloc (.cells (gArr x.at) 27)).alloc (.cells #[.int .u64 0, .int .u64 0, .int .u64 0, .int .u64 0, .int .u64 0] 27)) (w.heap.size + 1) 27 #[.int .u64 0, .int .u64 0, .int .u64 0, .int .u64 0, .int .u64 0] := by
    have := Box.new (w.alloc (.cells (gArr x.at) 27)) 27 #[.int .u64 0, .int .u64 0, .int .u64 0, .int .u64 0, .int .u64 0]
    simp only [World.size_alloc] at this
    exact this
  have g3 : Below w.heap.size w ((w.alloc (.cells (gArr x.at) 27)).alloc (.cells #[.int .u64 0, .int .u64 0, .int .u64 0, .int .u64 0, .int .u64 0] 27)) := ((Below.refl w.heap.size w).alloc (Nat.le_refl _) _).alloc (by simp) _
  have g4 : w.heap.size + 2 ≤ ((w.alloc (.cells (gArr x.at) 27)).alloc (.cells #[.int .u64 0, .int .u64 0, .int .u64 0, .int .u64 0, .int .u64 0] 27)).heap.size := by simp
  change Code.wp _ _ _ _ ((w.alloc (.cells (gArr x.at) 27)).alloc (.cells #[.int .u64 0, .int .u64 0, .int .u64 0, .int .u64 0, .int .u64 0] 27))
  generalize ((w.alloc (.cells (gArr x.at) 27)).alloc (.cells #[.int .u64 0, .int .u64 0, .int .u64 0, .int .u64 0, .int .u64 0] 27)) = W at *
  go_step
  refine wpList_enter rfl 20 #[.int .u64 1] (by simp [go_sem]) _ _ (HON.out W) ?_
  intro w1 b1
  refine wpList_alloc_box rfl 27 rfl #[.int .u64 0, .int .u64 0, .int .u64 0, .int .u64 0, .int .u64 0] (by intro w; simp [go_sem]) ?_
  refine wpList_store_box (cells := gArr (ofL 1).at) rfl 27 (.tmp 7) (.tmp 10) rfl (Box.new _ _ _) (by simp [go_sem, Act.put]) (by simp [go_sem, Act.put]) (by rw [gArr_size]; rfl) (by rw [gArr_size]; kernel_rfl) (gArr_one _) ?_
  intro w2 hO st
  have s1 := b1.size
  have hX := st.box ((g0.after b1).alloc _) (by omega)
  have hR := st.box ((g1.after b1).alloc _) (by omega)
  have hB := st.below w.heap.size w (by omega) ((g3.trans (b1.mono (by omega))).alloc (by omega) _)
  have hS : w1.heap.size + 1 ≤ w2.heap.size := by have := st.size; simp at this; omega
  have hHO : w.heap.size + 2 ≤ w1.heap.size := by omega
  simp only [Act.put, List.setIfInBounds_toArray, List.set_cons_zero, List.set_cons_succ]
  clear st b1 s1 g0 g1 g3 g4
  generalize w1.heap.size = O at *
  go_wp2_with fail
  go_loopw [8] (fun i wr => ∃ (k : Nat) (z : L5), k ≤ n ∧ i = .int .i64 ((k : Int) - 1) ∧ El z (pw u (T / 2 ^ k)) ∧ Box wr O 27 (gArr z.at) ∧ Box wr w.heap.size 27 (gArr x.at) ∧ Box wr (w.heap.size + 1) 27 #[.int .u64 0, .int .u64 0, .int .u64 0, .int .u64 0, .int .u64 0] ∧ Below w.heap.size w wr ∧ O + 1 ≤ wr.heap.size) (fun i _ => (intOf i + 1).toNat)
  case atStart => exact ⟨n, ofL 1, Nat.le_refl _, rfl, by rw [H0.out]; exact el_one, hO, hX, hR, hB, hS⟩
  case round =>
    obtain ⟨wa, rfl⟩ : ∃ wa : World, wa = wr := ⟨_, rfl⟩
    obtain ⟨k, z, hk, rfl, hz, hO, hX, hR, hB, hS⟩ := hrel
    by_cases hlt : 0 < k
    · obtain ⟨m, rfl⟩ : ∃ m, k = m + 1 := ⟨k - 1, by omega⟩
      rw [show (((m + 1 : Nat) : Int) - 1) = (m : Int) by omega]
      have hst := half_step T m
      have hzz := el_mul hz hz
      rw [pw_sq] at hzz
      have HMZ := Lib.hid (mul_g z z (lt_mono hz.1 (by omega)) (lt_mono hz.1 (by omega)))
      obtain ⟨y, hy⟩ : ∃ y, y = z.mul z := ⟨_, rfl⟩
      rw [← hy] at hzz HMZ
      clear hy
      have HMX := Lib.hid (mul_g y x (lt_mono hzz.1 (by omega)) (lt_mono HX.out.1 (by omega)))
      have hyx := el_mul hzz HX.out
      rw [pw_more] at hyx
      have hbt2 : T / 2 ^ m % 2 < 2 := Nat.mod_lt _ (by omega)
      have hlo : m < 64 → M / 2 ^ m % 2 = T / 2 ^ m % 2 := HLO.out m
      have hhi : 64 ≤ m → T / 2 ^ m % 2 = 1 := fun h => HHI.out m h (by omega)
      have hMm : M / 2 ^ m < 18446744073709551616 := Nat.lt_of_le_of_lt (Nat.div_le_self _ _) hMl
      obtain ⟨bt, hbt⟩ : ∃ bt, bt = T / 2 ^ m % 2 := ⟨_, rfl⟩
      rw [← hbt] at hst hlo hhi hbt2
      have m1 : m < 64 → bits BinOp.and IntKind.u64 ((M : Int) / 2 ^ m) 1 = (bt : Int) := fun h => by
        rw [show ((M : Int) / 2 ^ m) = ((M / 2 ^ m : Nat) : Int) by simp, show (1 : Int) = ((1 : Nat) : Int) from rfl, u64_and_nat _ _ (by omega) (by omega), Nat.and_one_is_mod, hlo h]
      have b0 : (0 : Int) ≤ (m : Int) := by omega
      have b1 : (m : Int) ≤ 255 := by omega
      have HZZ := Lib.hid hzz
      have HYX := Lib.hid hyx
      have HST := Lib.hid hst
      have HZ := Lib.hid hz
      clear hzz hyx hst hz hlo hMm
      go_upto_region 5 with fail
      go_step
      refine wpList_made 3 wa.heap.size wa (Below.refl _ _) ?_
      simp only [List.take_succ_cons, List.take_zero, List.drop_succ_cons, List.drop_zero]
      refine wpQ_load_box rfl 27 _ rfl hO (by rfl) hO.lt Try.underlying27 rfl (by rw [gArr_size]; kernel_rfl) ?_
      simp only [Act.put, List.setIfInBounds_toArray, List.set_cons_zero, List.set_cons_succ]
      refine wpQ_load_box rfl 27 _ rfl hO (by rfl) hO.lt Try.underlying27 rfl (by rw [gArr_size]; kernel_rfl) ?_
      simp only [Act.put, List.setIfInBounds_toArray, List.set_cons_zero, List.set_cons_succ]
      refine wpQ_call rfl 34 #[.agg (gArr z.at), .agg (gArr z.at)] (fun w => by simp [go_sem]) _ (Nat.le_refl _) HMZ.out ?_
      simp only [Act.put, List.setIfInBounds_toArray, List.set_cons_zero, List.set_cons_succ]
      intro wa1 bm
      refine wpList_store_box (cells := gArr y.at) rfl 27 (.tmp 7) (.tmp 19) rfl (hO.after bm) (by simp [go_sem]) (by simp [go_sem]) (by rw [gArr_size, gArr_size]) (by rw [gArr_size]; kernel_rfl) (gArr_one _) ?_
      intro wa2 hO2 sm
      have hX2 := sm.box (hX.after bm) (by omega)
      have hR2 := sm.box (hR.after bm) (by omega)
      have hB2 := sm.below w.heap.size w (by omega) (hB.trans (bm.mono (by omega)))
      have hS2 : O + 1 ≤ wa2.heap.size := by have := sm.size; have := bm.size; omega
      simp only [Act.put]
      clear sm bm hO hX hR hB hS
      have fin : ∀ (t : L5) (w' : World), El t (pw u (T / 2 ^ m)) → Box w' O 27 (gArr t.at) → Box w' w.heap.size 27 (gArr x.at) → Box w' (w.heap.size + 1) 27 #[.int .u64 0, .int .u64 0, .int .u64 0, .int .u64 0, .int .u64 0] → Below w.heap.size w w' → O + 1 ≤ w'.heap.size →
          ∃ (k : Nat) (z : L5), k ≤ n ∧ Value.int .i64 ((m : Int) - 1) = .int .i64 ((k : Int) - 1) ∧ El z (pw u (T / 2 ^ k)) ∧ Box w' O 27 (gArr z.at) ∧ Box w' w.heap.size 27 (gArr x.at) ∧ Box w' (w.heap.size + 1) 27 #[.int .u64 0, .int .u64 0, .int .u64 0, .int .u64 0, .int .u64 0] ∧ Below w.heap.size w w' ∧ O + 1 ≤ w'.heap.size :=
        fun t w' a b c d e f => ⟨m, t, by omega, rfl, a, b, c, d, e, f⟩
      have FIN := Lib.hid fin
      clear fin
      by_cases h64 : m < 64
      · have m1' := m1 h64
        have h64' : (m : Int) < 64 := by omega
        clear m1 hhi hbt
        have hb01 : bt = 0 ∨ bt = 1 := by omega
        rcases hb01 with rfl | rfl
        · have m1'' : bits BinOp.and IntKind.u64 ((M : Int) / 2 ^ m) 1 = 0 := m1'
          clear m1'
          have HEL : Hid (El y (pw u (T / 2 ^ m))) := Lib.hid (by have := HZZ.out; rwa [HST.out])
          go_wp2_with fail
          refine ⟨FIN.out y wa2 HEL.out hO2 hX2 hR2 hB2 hS2, by simp [intOf]⟩
        · have m1'' : bits BinOp.and IntKind.u64 ((M : Int) / 2 ^ m) 1 = 1 := m1'
          clear m1'
          have HEL : Hid (El (y.mul x) (pw u (T / 2 ^ m))) := Lib.hid (by have := HYX.out; rwa [HST.out])
          have hO := hO2
          have hX := hX2
          have hR := hR2
          have hB := hB2
          have hS := hS2
          clear hO2 hX2 hR2 hB2 hS2
          go_upto_region 10 with fail
          go_step
          refine wpList_made 3 wa2.heap.size wa2 (Below.refl _ _) ?_
          simp only [List.take_succ_cons, List.take_zero, List.drop_succ_cons, List.drop_zero]
          refine wpQ_load_box rfl 27 _ rfl hO (by rfl) hO.lt Try.underlying27 rfl (by rw [gArr_size]; kernel_rfl) ?_
          simp only [Act.put, List.setIfInBounds_toArray, List.set_cons_zero, List.set_cons_succ]
          refine wpQ_load_box rfl 27 _ rfl hX (by rfl) hX.lt Try.underlying27 rfl (by rw [gArr_size]; kernel_rfl) ?_
          simp only [Act.put, List.setIfInBounds_toArray, List.set_cons_zero, List.set_cons_succ]
          refine wpQ_call rfl 34 #[.agg (gArr y.at), .agg (gArr x.at)] (fun w => by simp [go_sem]) _ (Nat.le_refl _) HMX.out ?_
          simp only [Act.put, List.setIfInBounds_toArray, List.set_cons_zero, List.set_cons_succ]
          intro wb1 bm
          refine wpList_store_box (cells := gArr (y.mul x).at) rfl 27 (.tmp 7) (.tmp 31) rfl (hO.after bm) (by simp [go_sem]) (by simp [go_sem]) (by rw [gArr_size, gArr_size]) (by rw [gArr_size]; kernel_rfl) (gArr_one _) ?_
          intro wb2 hO2 sm
          have hX2 := sm.box (hX.after bm) (by omega)
          have hR2 := sm.box (hR.after bm) (by omega)
          have hB2 := sm.below w.heap.size w (by omega) (hB.trans (bm.mono (by omega)))
          have hS2 : O + 1 ≤ wb2.heap.size := by have := sm.size; have := bm.size; omega
          simp only [Act.put]
          clear sm bm hO hX hR hB hS

          go_wp2_with fail
          refine ⟨FIN.out (y.mul x) wb2 HEL.out hO2 hX2 hR2 hB2 hS2, by simp [intOf]⟩
      · have h64' : ¬ (m : Int) < 64 := by omega
        obtain rfl : bt = 1 := hhi (by omega)
        clear m1 hhi hbt
        have HEL : Hid (El (y.mul x) (pw u (T / 2 ^ m))) := Lib.hid (by have := HYX.out; rwa [HST.out])
        have hO := hO2
        have hX := hX2
        have hR := hR2
        have hB := hB2
        have hS := hS2
        clear hO2 hX2 hR2 hB2 hS2
        go_upto_region 10 with fail
        go_step
        refine wpList_made 3 wa2.heap.size wa2 (Below.refl _ _) ?_
        simp only [List.take_succ_cons, List.take_zero, List.drop_succ_cons, List.drop_zero]
        refine wpQ_load_box rfl 27 _ rfl hO (by rfl) hO.lt Try.underlying27 rfl (by rw [gArr_size]; kernel_rfl) ?_
        simp only [Act.put, List.setIfInBounds_toArray, List.set_cons_zero, List.set_cons_succ]
        refine wpQ_load_box rfl 27 _ rfl hX (by rfl) hX.lt Try.underlying27 rfl (by rw [gArr_size]; kernel_rfl) ?_
        simp only [Act.put, List.setIfInBounds_toArray, List.set_cons_zero, List.set_cons_succ]
        refine wpQ_call rfl 34 #[.agg (gArr y.at), .agg (gArr x.at)] (fun w => by simp [go_sem]) _ (Nat.le_refl _) HMX.out ?_
        simp only [Act.put, List.setIfInBounds_toArray, List.set_cons_zero, List.set_cons_succ]
        intro wb1 bm
        refine wpList_store_box (cells := gArr (y.mul x).at) rfl 27 (.tmp 7) (.tmp 31) rfl (hO.after bm) (by simp [go_sem]) (by simp [go_sem]) (by rw [gArr_size, gArr_size]) (by rw [gArr_size]; kernel_rfl) (gArr_one _) ?_
        intro wb2 hO2 sm
        have hX2 := sm.box (hX.after bm) (by omega)
        have hR2 := sm.box (hR.after bm) (by omega)
        have hB2 := sm.below w.heap.size w (by omega) (hB.trans (bm.mono (by omega)))
        have hS2 : O + 1 ≤ wb2.heap.size := by have := sm.size; have := bm.size; omega
        simp only [Act.put]
        clear sm bm hO hX hR hB hS

        go_wp2_with fail
        refine ⟨FIN.out (y.mul x) wb2 HEL.out hO2 hX2 hR2 hB2 hS2, by simp [intOf]⟩
    · obtain rfl : k = 0 := by omega
      rw [Nat.pow_zero, Nat.div_one] at hz
      have HZ := Lib.hid hz
      clear hz
      go_upto_region 11 with fail
      go_step
      refine wpList_load_box rfl 27 _ rfl hO (by simp [go_sem]) Try.underlying27 rfl (by rw [gArr_size]; kernel_rfl) ?_
      refine wpList_store_box (cells := gArr z.at) rfl 27 (.tmp 6) (.tmp 32) rfl hR (by simp [go_sem, Act.put]) (by simp [go_sem, Act.put]) (by rw [gArr_size]; rfl) (by rw [gArr_size]; kernel_rfl) (gArr_one _) ?_
      intro w5 hR5 st5
      have hB5 := st5.below w.heap.size w (by omega) hB
      simp only [Act.put, List.setIfInBounds_toArray, List.set_cons_zero, List.set_cons_succ]
      clear st5 hO hX hR hB
      go_wp2_with fail
      exact bodyPost_ret (v := .agg (gArr z.at)) (box_result rfl _ _ (by rfl) hR5 Try.underlying27 rfl (by rw [gArr_size]; kernel_rfl)) rfl ⟨z, rfl, HZ.out, hB5⟩
end Go.Proofs.Ytddgkoheihlbdaa

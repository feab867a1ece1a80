/- field: the document's Power: what it computes. -/
import Derived.Test.YtddgkoheihlbdaaFldPow
namespace Go.Proofs.Ytddgkoheihlbdaa
open Go.RowKit

theorem pw_lt (u e : Nat) : pw u e < P25 := Nat.mod_lt _ (by unfold P25; omega)
theorem dig_bit (Q m : Nat) : dig Q (m / 16) / 2 ^ (m % 16) % 2 = Q / 2 ^ m % 2 := by
  unfold dig
  rw [show (65536 : Nat) = 2 ^ 16 from rfl, bit_mod _ _ _ (Nat.mod_lt _ (by omega)), Nat.div_div_eq_div_mul, ← Nat.pow_mul, ← Nat.pow_add]
  congr 3
  omega
theorem dig_less (l : Nat) (hl : l ≤ 65517) : fArr (upd (dig P25) 0 (65517 - l)) = fArr (dig (P25 - l)) := by
  refine fArr_congr fun j hj => ?_
  have h0 : dig P25 0 = 65517 := by decide +kernel
  unfold upd
  by_cases h : j = 0
  · subst h
    rw [if_pos rfl]
    unfold dig P25 at *
    simp at h0 ⊢
    omega
  · rw [if_neg h]
    obtain ⟨i, rfl⟩ : ∃ i, j = i + 1 := ⟨j - 1, by omega⟩
    unfold dig
    rw [Nat.pow_succ', ← Nat.div_div_eq_div_mul, ← Nat.div_div_eq_div_mul]
    congr 2
    unfold P25
    omega

set_option maxRecDepth 100000 in
set_option maxHeartbeats 2000000 in
theorem refPower_any (u l dn : Nat) (w : World) (hu : u < P25) (hl : l ≤ 65517) (hdn : dn ≤ 255) :
    Calls Try.prog 75 #[.agg (fArr (dig u)), .int .u64 l, .int .i64 dn] w fun e w' => e = .returned (.agg (fArr (dig (pw u ((P25 - l) / 2 ^ dn))))) ∧ Below w.heap.size w w' := by
  have hP : P25 < 115792089237316195423570985008687907853269984665640564039457584007913129639936 := by unfold P25; omega
  have HPL := Lib.hid (dig_less l hl)
  obtain ⟨Q, hQ⟩ : ∃ Q, Q = P25 - l := ⟨_, rfl⟩
  rw [← hQ] at HPL ⊢
  have H0 := Lib.hid (show Q / 2 ^ 256 = 0 from Nat.div_eq_of_lt (by simp only [Nat.reducePow]; omega))
  have HMU := Lib.hid (fun (a b : Nat) (ha : a < P25) (hb : b < P25) (w : World) => refMul_any a b w (by omega) (by omega))
  have HON := Lib.hid (refOf_any 1)
  have hPS : pCells.size = 16 := fArr_size _
  have HP1 := Lib.hid (fArr_one (dig P25))
  have HPS := Lib.hid hPS
  have HU := Lib.hid hu
  clear hPS hQ hP hu
  obtain ⟨r0, hr0⟩ : ∃ r0, r0 = 65517 - l := ⟨_, rfl⟩
  rw [← hr0] at HPL
  have e0 : (65517 : Int) - (l : Int) = (r0 : Int) := by omega
  clear hr0
  go_enter Try.func75, Try.ntmps75
  go_upto_region 1 with fail
  have g0 : Box ((w.alloc (.cells (fArr (dig u)) 34)).alloc (.cells (Array.replicate 16 (Value.int .u64 0)) 34)) w.heap.size 34 (fArr (dig u)) := (Box.new _ _ _).alloc _
  have g1 : Box ((w.alloc (.cells (fArr (dig u)) 34)).alloc (.cells (Array.replicate 16 (Value.int .u64 0)) 34)) (w.heap.size + 1) 34 (Array.replicate 16 (Value.int .u64 0)) := by
    have := Box.new (w.alloc (.cells (fArr (dig u)) 34)) 34 (Array.replicate 16 (Value.int .u64 0))
    simp only [World.size_alloc] at this
    exact this
  have g3 : Below w.heap.size w ((w.alloc (.cells (fArr (dig u)) 34)).alloc (.cells (Array.replicate 16 (Value.int .u64 0)) 34)) := ((Below.refl w.heap.size w).alloc (Nat.le_refl _) _).alloc (by simp) _
  have g4 : ((w.alloc (.cells (fArr (dig u)) 34)).alloc (.cells (Array.replicate 16 (Value.int .u64 0)) 34)).heap.size = w.heap.size + 2 := by simp
  change Code.wp _ _ _ _ ((w.alloc (.cells (fArr (dig u)) 34)).alloc (.cells (Array.replicate 16 (Value.int .u64 0)) 34))
  generalize ((w.alloc (.cells (fArr (dig u)) 34)).alloc (.cells (Array.replicate 16 (Value.int .u64 0)) 34)) = W at *
  go_step
  refine wpList_value rfl (.agg pCells) (by rw [pCells_lit]; simp [go_sem]) ?_
  refine wpList_alloc_box rfl 34 rfl (Array.replicate 16 (Value.int .u64 0)) (by intro w; simp [go_sem]; rfl) ?_
  refine wpList_store_box (cells := pCells) rfl 34 _ _ rfl (Box.new _ _ _) (by rfl) (by rfl) (by rw [HPS.out]; rfl) (by rw [HPS.out]; kernel_rfl) HP1.out ?_
  intro w2 hP2 hst
  have hX2 := hst.box (g0.alloc _) (by omega)
  have hR2 := hst.box (g1.alloc _) (by omega)
  have hB2 := hst.below w.heap.size w (by omega) (g3.alloc (by omega) _)
  have hS2 : w.heap.size + 3 ≤ w2.heap.size := by have := hst.size; simp at this; omega
  rw [g4] at hP2
  simp only [Act.put, List.setIfInBounds_toArray, List.set_cons_zero, List.set_cons_succ]
  rw [g4]
  clear hst g0 g1 g3 g4
  change Box w2 (w.heap.size + 2) 34 (fArr (dig P25)) at hP2
  have x0 := hP2.cell 0 (fArr_get _ 0 (by omega))
  rw [show dig P25 0 = 65517 from by decide +kernel] at x0
  have f0 := hP2.frozen 0
  have hP3 := hP2.set 0 (.int .u64 (r0 : Nat))
  rw [fArr_set, HPL.out] at hP3
  have hX3 : Box (w2.setCell ⟨w.heap.size + 2, 0, none⟩ (.int .u64 (r0 : Nat))) w.heap.size 34 (fArr (dig u)) := hX2.far _ _ (by simp)
  have hR3 : Box (w2.setCell ⟨w.heap.size + 2, 0, none⟩ (.int .u64 (r0 : Nat))) (w.heap.size + 1) 34 (Array.replicate 16 (Value.int .u64 0)) := hR2.far _ _ (by simp)
  have hB3 : Below w.heap.size w (w2.setCell ⟨w.heap.size + 2, 0, none⟩ (.int .u64 (r0 : Nat))) := hB2.setCell (by simp) _
  have hS3 : w.heap.size + 3 ≤ (w2.setCell ⟨w.heap.size + 2, 0, none⟩ (.int .u64 (r0 : Nat))).heap.size := by simpa using hS2
  clear hP2 hX2 hR2 hB2 hS2
  generalize Value.agg pCells = PV at *
  go_upto_region 3 with fail
  generalize w2.setCell ⟨w.heap.size + 2, 0, none⟩ (.int .u64 (r0 : Nat)) = w3 at *
  clear x0 f0 e0
  go_step
  refine wpList_enter rfl 22 #[.int .u64 1] (by simp [go_sem]) _ _ (HON.out w3 (by decide)) ?_
  intro w4 b4
  refine wpList_alloc_box rfl 34 rfl (Array.replicate 16 (Value.int .u64 0)) (by intro w; simp [go_sem]; rfl) ?_
  refine wpList_store_box (cells := fArr (dig 1)) rfl 34 (.tmp 8) (.tmp 18) rfl (Box.new _ _ _) (by simp [go_sem, Act.put]) (by simp [go_sem, Act.put]) (by rw [fArr_size]; rfl) (by rw [fArr_size]; kernel_rfl) (fArr_one _) ?_
  intro w5 hO st
  have s1 := b4.size
  have hX := st.box ((hX3.after b4).alloc _) (by omega)
  have hR := st.box ((hR3.after b4).alloc _) (by omega)
  have hP := st.box ((hP3.after b4).alloc _) (by omega)
  have hB := st.below w.heap.size w (by omega) ((hB3.trans (b4.mono (by omega))).alloc (by omega) _)
  have hS : w4.heap.size + 1 ≤ w5.heap.size := by have := st.size; simp at this; omega
  have hHO : w.heap.size + 3 ≤ w4.heap.size := by omega
  simp only [Act.put, List.setIfInBounds_toArray, List.set_cons_zero, List.set_cons_succ]
  clear st b4 s1 hX3 hR3 hP3 hB3 hS3
  generalize w4.heap.size = O at *
  go_wp2_with fail
  go_loopw [9] (fun i wr => ∃ k : Nat, dn ≤ k ∧ k ≤ 256 ∧ i = .int .i64 ((k : Int) - 1) ∧ Box wr O 34 (fArr (dig (pw u (Q / 2 ^ k)))) ∧ Box wr w.heap.size 34 (fArr (dig u)) ∧ Box wr (w.heap.size + 1) 34 (Array.replicate 16 (Value.int .u64 0)) ∧ Box wr (w.heap.size + 2) 34 (fArr (dig Q)) ∧ Below w.heap.size w wr ∧ O + 1 ≤ wr.heap.size) (fun i _ => (intOf i + 1).toNat)
  case atStart => exact ⟨256, by omega, by omega, rfl, by rw [H0.out, show pw u 0 = 1 from by unfold pw P25; simp]; exact hO, hX, hR, hP, hB, hS⟩
  case round =>
    obtain ⟨wa, rfl⟩ : ∃ wa : World, wa = wr := ⟨_, rfl⟩
    obtain ⟨k, hdk, hk, rfl, hO, hX, hR, hP, hB, hS⟩ := hrel
    by_cases hlt : dn < k
    · obtain ⟨m, rfl⟩ : ∃ m, k = m + 1 := ⟨k - 1, by omega⟩
      rw [show (((m + 1 : Nat) : Int) - 1) = (m : Int) by omega]
      have hst := half_step Q m
      have hsq := pw_sq u (Q / 2 ^ (m + 1))
      have hmo := pw_more u (2 * (Q / 2 ^ (m + 1)))
      have hl0 := pw_lt u (Q / 2 ^ (m + 1))
      have hl1 := pw_lt u (2 * (Q / 2 ^ (m + 1)))
      have HM1 := Lib.hid (HMU.out _ _ hl0 hl0)
      rw [hsq] at HM1
      have HM2 := Lib.hid (HMU.out _ _ hl1 HU.out)
      rw [hmo] at HM2
      have hdb := dig_bit Q m
      have hdl := dig_lt Q (m / 16)
      have hbt2 : Q / 2 ^ m % 2 < 2 := Nat.mod_lt _ (by omega)
      obtain ⟨bt, hbt⟩ : ∃ bt, bt = Q / 2 ^ m % 2 := ⟨_, rfl⟩
      rw [← hbt] at hst hdb hbt2
      obtain ⟨z, hz⟩ : ∃ z, z = pw u (Q / 2 ^ (m + 1)) := ⟨_, rfl⟩
      obtain ⟨y, hy⟩ : ∃ y, y = pw u (2 * (Q / 2 ^ (m + 1))) := ⟨_, rfl⟩
      obtain ⟨x, hx⟩ : ∃ x, x = pw u (2 * (Q / 2 ^ (m + 1)) + 1) := ⟨_, rfl⟩
      rw [← hz, ← hy] at HM1
      rw [← hy, ← hx] at HM2
      rw [← hz] at hO
      have HY := Lib.hid (show bt = 0 → y = pw u (Q / 2 ^ m) from fun h => by rw [hy, hst, h]; rfl)
      have HXX := Lib.hid (show bt = 1 → x = pw u (Q / 2 ^ m) from fun h => by rw [hx, hst, h])
      clear hst hsq hmo hl0 hl1 hbt hz hy hx
      have b0 : (dn : Int) ≤ (m : Int) := by omega
      have b1 : (0 : Int) ≤ (m : Int) := by omega
      have b2 : (m : Int) ≤ 255 := by omega
      obtain ⟨q, hq⟩ : ∃ q, q = m / 16 := ⟨_, rfl⟩
      obtain ⟨r, hr⟩ : ∃ r, r = m % 16 := ⟨_, rfl⟩
      rw [← hq] at hdl
      rw [← hq, ← hr] at hdb
      have d1 : (m : Int) / 16 = (q : Int) := by omega
      have d2 : (m : Int) % 16 = (r : Int) := by omega
      have d3 : (m : Int).tdiv 16 = (q : Int) := by rw [Int.tdiv_eq_ediv_of_nonneg (by omega)]; omega
      have d4 : (m : Int).tmod 16 = (r : Int) := by rw [Int.tmod_eq_emod_of_nonneg (by omega)]; omega
      have hq16 : q < 16 := by omega
      have hr16 : r < 16 := by omega
      have b3 : (0 : Int) ≤ (q : Int) := by omega
      have b4 : (q : Int) < 16 := by omega
      clear hq hr
      go_upto_region 7 with fail
      go_step
      refine wpList_made 3 wa.heap.size wa (Below.refl _ _) ?_
      simp only [List.take_succ_cons, List.take_zero, List.drop_succ_cons, List.drop_zero]
      refine wpQ_load_box rfl 34 _ rfl hO (by rfl) hO.lt Try.underlying34 rfl (by rw [fArr_size]; kernel_rfl) ?_
      simp only [Act.put, List.setIfInBounds_toArray, List.set_cons_zero, List.set_cons_succ]
      refine wpQ_load_box rfl 34 _ rfl hO (by rfl) hO.lt Try.underlying34 rfl (by rw [fArr_size]; kernel_rfl) ?_
      simp only [Act.put, List.setIfInBounds_toArray, List.set_cons_zero, List.set_cons_succ]
      refine wpQ_call rfl 39 #[.agg (fArr (dig z)), .agg (fArr (dig z))] (fun w => by simp [go_sem]) _ (Nat.le_refl _) HM1.out ?_
      simp only [Act.put, List.setIfInBounds_toArray, List.set_cons_zero, List.set_cons_succ]
      intro wb1 bm
      refine wpList_store_box (cells := fArr (dig y)) rfl 34 (.tmp 8) (.tmp 26) rfl (hO.after bm) (by simp [go_sem]) (by simp [go_sem]) (by rw [fArr_size, fArr_size]) (by rw [fArr_size]; kernel_rfl) (fArr_one _) ?_
      intro wb2 hO2 sm
      have hX2 := sm.box (hX.after bm) (by omega)
      have hR2 := sm.box (hR.after bm) (by omega)
      have hP2 := sm.box (hP.after bm) (by omega)
      have hB2 := sm.below w.heap.size w (by omega) (hB.trans (bm.mono (by omega)))
      have hS2 : O + 1 ≤ wb2.heap.size := by have := sm.size; have := bm.size; omega
      simp only [Act.put]
      clear sm bm hO hX hR hP hB hS
      have gp := hP2.cell q (fArr_get _ q hq16)
      obtain ⟨g, hg⟩ : ∃ g, g = dig Q q := ⟨_, rfl⟩
      rw [← hg] at gp hdl hdb
      clear hg
      go_wp2_with fail
      have hg0 : ((g : Nat) : Int) = ((g / 2 ^ 0 : Nat) : Int) := by simp
      go_loop [10, 11] (fun b t => ∃ j : Nat, j ≤ r ∧ t = .int .i64 j ∧ b = .int .u64 (g / 2 ^ j : Nat)) (fun _ t => r - (intOf t).toNat)
      case atStart => exact ⟨0, by omega, rfl, by rw [← hg0]⟩
      case round =>
        clear hg0
        obtain ⟨j, hj, rfl, rfl⟩ := hrel
        have hjm : g / 2 ^ j < 65536 := Nat.lt_of_le_of_lt (Nat.div_le_self _ _) hdl
        by_cases hjr : j < r
        · have hn : g / 2 ^ (j + 1) = g / 2 ^ j / 2 := by rw [Nat.pow_succ, Nat.div_div_eq_div_mul]
          obtain ⟨a, ha⟩ : ∃ a, a = g / 2 ^ j := ⟨_, rfl⟩
          obtain ⟨a', ha'⟩ : ∃ a', a' = g / 2 ^ (j + 1) := ⟨_, rfl⟩
          rw [← ha, ← ha'] at hn
          rw [← ha] at hjm ⊢
          have e1 : (a : Int) / 2 = (a' : Int) := by omega
          have HA := Lib.hid ha'
          have hjr' : (j : Int) < (r : Int) := by omega
          clear ha ha' hn
          go_wp2_with fail
          refine ⟨⟨j + 1, by omega, by go_num, by rw [HA.out]⟩, by simp [intOf]; omega⟩
        · obtain rfl : j = r := by omega
          obtain ⟨a, ha⟩ : ∃ a, a = g / 2 ^ j := ⟨_, rfl⟩
          rw [← ha] at hjm hdb ⊢
          have e1 : (a : Int) % 2 = (bt : Int) := by omega
          have hjr' : ¬ (j : Int) < (j : Int) := by omega
          have hb01 : bt = 0 ∨ bt = 1 := by omega
          clear ha hdb hjr
          rcases hb01 with rfl | rfl
          · have e2 : (a : Int) % 2 = 0 := e1
            clear e1
            go_wp2_with fail
            exact ⟨⟨m, by omega, by omega, by go_num, by rw [← HY.out rfl]; exact hO2, hX2, hR2, hP2, hB2, hS2⟩, by simp [intOf]⟩
          · have e2 : (a : Int) % 2 = 1 := e1
            clear e1
            have hO := hO2
            have hX := hX2
            have hR := hR2
            have hP := hP2
            have hB := hB2
            have hS := hS2
            clear hO2 hX2 hR2 hP2 hB2 hS2
            go_upto_region 14 with fail
            go_step
            refine wpList_made 3 wb2.heap.size wb2 (Below.refl _ _) ?_
            simp only [List.take_succ_cons, List.take_zero, List.drop_succ_cons, List.drop_zero]
            refine wpQ_load_box rfl 34 _ rfl hO (by rfl) hO.lt Try.underlying34 rfl (by rw [fArr_size]; kernel_rfl) ?_
            simp only [Act.put, List.setIfInBounds_toArray, List.set_cons_zero, List.set_cons_succ]
            refine wpQ_load_box rfl 34 _ rfl hX (by rfl) hX.lt Try.underlying34 rfl (by rw [fArr_size]; kernel_rfl) ?_
            simp only [Act.put, List.setIfInBounds_toArray, List.set_cons_zero, List.set_cons_succ]
            refine wpQ_call rfl 39 #[.agg (fArr (dig y)), .agg (fArr (dig u))] (fun w => by simp [go_sem]) _ (Nat.le_refl _) HM2.out ?_
            simp only [Act.put, List.setIfInBounds_toArray, List.set_cons_zero, List.set_cons_succ]
            intro wd1 bm
            refine wpList_store_box (cells := fArr (dig x)) rfl 34 (.tmp 8) (.tmp 44) rfl (hO.after bm) (by simp [go_sem]) (by simp [go_sem]) (by rw [fArr_size, fArr_size]) (by rw [fArr_size]; kernel_rfl) (fArr_one _) ?_
            intro wd2 hO3 sm
            have hX3 := sm.box (hX.after bm) (by omega)
            have hR3 := sm.box (hR.after bm) (by omega)
            have hP3 := sm.box (hP.after bm) (by omega)
            have hB3 := sm.below w.heap.size w (by omega) (hB.trans (bm.mono (by omega)))
            have hS3 : O + 1 ≤ wd2.heap.size := by have := sm.size; have := bm.size; omega
            simp only [Act.put]
            clear sm bm hO hX hR hP hB hS
            go_wp2_with fail
            exact ⟨⟨m, by omega, by omega, by go_num, by rw [← HXX.out rfl]; exact hO3, hX3, hR3, hP3, hB3, hS3⟩, by simp [intOf]⟩
    · obtain rfl : k = dn := by omega
      have hlt' : ¬ (k : Int) ≤ (k : Int) - 1 := by omega
      obtain ⟨R, hRR⟩ : ∃ R, R = fArr (dig (pw u (Q / 2 ^ k))) := ⟨_, rfl⟩
      have HRS := Lib.hid (show R.size = 16 by rw [hRR]; exact fArr_size _)
      have HR1 := Lib.hid (show R.all (·.oneCell') = true by rw [hRR]; exact fArr_one _)
      rw [← hRR] at hO
      have HRR := Lib.hid hRR
      clear hRR
      go_upto_region 15 with fail
      go_step
      refine wpList_load_box rfl 34 _ rfl hO (by simp [go_sem]) Try.underlying34 rfl (by rw [HRS.out]; kernel_rfl) ?_
      refine wpList_store_box (cells := R) rfl 34 (.tmp 6) (.tmp 45) rfl hR (by simp [go_sem, Act.put]) (by simp [go_sem, Act.put]) (by rw [HRS.out]; rfl) (by rw [HRS.out]; kernel_rfl) HR1.out ?_
      intro w6 hR6 st6
      have hB6 := st6.below w.heap.size w (by omega) hB
      simp only [Act.put, List.setIfInBounds_toArray, List.set_cons_zero, List.set_cons_succ]
      clear st6 hO hX hR hP hB
      go_wp2_with fail
      exact bodyPost_ret (v := .agg R) (box_result rfl _ _ (by rfl) hR6 Try.underlying34 rfl (by rw [HRS.out]; kernel_rfl)) rfl ⟨by rw [HRR.out], hB6⟩
end Go.Proofs.Ytddgkoheihlbdaa

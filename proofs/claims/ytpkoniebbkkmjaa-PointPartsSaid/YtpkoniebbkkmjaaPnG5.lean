/- field: the document's Power: what it computes. field: Inv, and the document's: what they compute. field: Root: what it computes. field: the document's Root: what it computes. -/
import Derived.Test.YtpkoniebbkkmjaaPnG4
import Derived.Deep.CutRange
import Derived.Deep.RegionHeld3
namespace Go.Proofs.Ytpkoniebbkkmjaa
open Go.RowKit

theorem pw_lt (u e : Nat) : pw u e < P25 := Nat.mod_lt _ (by unfold P25; omega)
theorem dig_bit (Q m : Nat) : dig Q (m / 16) / 2 ^ (m % 16) % 2 = Q / 2 ^ m % 2 := by
  unfold dig
  rw [show (65536 : Nat) = 2 ^ 16 from rfl, bit_mod _ _ _ (Nat.mod_lt _ (by omega)), Nat.div_div_eq_div_mul, ← Nat.pow_mul, ← Nat.pow_add]
  congr 3
  omega
theorem dig_less (l : Nat) (hl : l ≤ 65517) : fArr (upd (dig P25) 0 (65517 - l)) = fArr (dig (P25 - l)) := by
  refine fArr_congr fun j hj => ?_
  have h0 : dig P25 0 = 65517 := by decide +kernel
  unfold upd
  by_cases h : j = 0
  · subst h
    rw [if_pos rfl]
    unfold dig P25 at *
    simp at h0 ⊢
    omega
  · rw [if_neg h]
    obtain ⟨i, rfl⟩ : ∃ i, j = i + 1 := ⟨j - 1, by omega⟩
    unfold dig
    rw [Nat.pow_succ', ← Nat.div_div_eq_div_mul, ← Nat.div_div_eq_div_mul]
    congr 2
    unfold P25
    omega

set_option maxRecDepth 100000 in
set_option maxHeartbeats 2000000 in
theorem refPower_any (u l dn : Nat) (w : World) (hu : u < P25) (hl : l ≤ 65517) (hdn : dn ≤ 255) :
    Calls Try.prog 66 #[.agg (fArr (dig u)), .int .u64 l, .int .i64 dn] w fun e w' => e = .returned (.agg (fArr (dig (pw u ((P25 - l) / 2 ^ dn))))) ∧ Below w.heap.size w w' := by
  have hP : P25 < 115792089237316195423570985008687907853269984665640564039457584007913129639936 := by unfold P25; omega
  have HPL := Lib.hid (dig_less l hl)
  obtain ⟨Q, hQ⟩ : ∃ Q, Q = P25 - l := ⟨_, rfl⟩
  rw [← hQ] at HPL ⊢
  have H0 := Lib.hid (show Q / 2 ^ 256 = 0 from Nat.div_eq_of_lt (by simp only [Nat.reducePow]; omega))
  have HMU := Lib.hid (fun (a b : Nat) (ha : a < P25) (hb : b < P25) (w : World) => refMul_any a b w (by omega) (by omega))
  have HON := Lib.hid (refOf_any 1)
  have hPS : pCells.size = 16 := fArr_size _
  have HP1 := Lib.hid (fArr_one (dig P25))
  have HPS := Lib.hid hPS
  have HU := Lib.hid hu
  clear hPS hQ hP hu
  obtain ⟨r0, hr0⟩ : ∃ r0, r0 = 65517 - l := ⟨_, rfl⟩
  rw [← hr0] at HPL
  have e0 : (65517 : Int) - (l : Int) = (r0 : Int) := by omega
  clear hr0
  go_enter Try.func66, Try.ntmps66
  go_upto_region 1 with fail
  have g0 : Box ((w.alloc (.cells (fArr (dig u)) 34)).alloc (.cells (Array.replicate 16 (Value.int .u64 0)) 34)) w.heap.size 34 (fArr (dig u)) := (Box.new _ _ _).alloc _
  have g1 : Box ((w.alloc (.cells (fArr (dig u)) 34)).alloc (.cells (Array.replicate 16 (Value.int .u64 0)) 34)) (w.heap.size + 1) 34 (Array.replicate 16 (Value.int .u64 0)) := by
    have := Box.new (w.alloc (.cells (fArr (dig u)) 34)) 34 (Array.replicate 16 (Value.int .u64 0))
    simp only [World.size_alloc] at this
    exact this
  have g3 : Below w.heap.size w ((w.alloc (.cells (fArr (dig u)) 34)).alloc (.cells (Array.replicate 16 (Value.int .u64 0)) 34)) := ((Below.refl w.heap.size w).alloc (Nat.le_refl _) _).alloc (by simp) _
  have g4 : ((w.alloc (.cells (fArr (dig u)) 34)).alloc (.cells (Array.replicate 16 (Value.int .u64 0)) 34)).heap.size = w.heap.size + 2 := by simp
  change Code.wp _ _ _ _ ((w.alloc (.cells (fArr (dig u)) 34)).alloc (.cells (Array.replicate 16 (Value.int .u64 0)) 34))
  generalize ((w.alloc (.cells (fArr (dig u)) 34)).alloc (.cells (Array.replicate 16 (Value.int .u64 0)) 34)) = W at *
  go_step
  refine wpList_value rfl (.agg pCells) (by rw [pCells_lit]; simp [go_sem]) ?_
  refine wpList_alloc_box rfl 34 rfl (Array.replicate 16 (Value.int .u64 0)) (by intro w; simp [go_sem]; rfl) ?_
  refine wpList_store_box (cells := pCells) rfl 34 _ _ rfl (Box.new _ _ _) (by rfl) (by rfl) (by rw [HPS.out]; rfl) (by rw [HPS.out]; kernel_rfl) HP1.out ?_
  intro w2 hP2 hst
  have hX2 := hst.box (g0.alloc _) (by omega)
  have hR2 := hst.box (g1.alloc _) (by omega)
  have hB2 := hst.below w.heap.size w (by omega) (g3.alloc (by omega) _)
  have hS2 : w.heap.size + 3 ≤ w2.heap.size := by have := hst.size; simp at this; omega
  rw [g4] at hP2
  simp only [Act.put, List.setIfInBounds_toArray, List.set_cons_zero, List.set_cons_succ]
  rw [g4]
  clear hst g0 g1 g3 g4
  change Box w2 (w.heap.size + 2) 34 (fArr (dig P25)) at hP2
  have x0 := hP2.cell 0 (fArr_get _ 0 (by omega))
  rw [show dig P25 0 = 65517 from by decide +kernel] at x0
  have f0 := hP2.frozen 0
  have hP3 := hP2.set 0 (.int .u64 (r0 : Nat))
  rw [fArr_set, HPL.out] at hP3
  have hX3 : Box (w2.setCell ⟨w.heap.size + 2, 0, none⟩ (.int .u64 (r0 : Nat))) w.heap.size 34 (fArr (dig u)) := hX2.far _ _ (by simp)
  have hR3 : Box (w2.setCell ⟨w.heap.size + 2, 0, none⟩ (.int .u64 (r0 : Nat))) (w.heap.size + 1) 34 (Array.replicate 16 (Value.int .u64 0)) := hR2.far _ _ (by simp)
  have hB3 : Below w.heap.size w (w2.setCell ⟨w.heap.size + 2, 0, none⟩ (.int .u64 (r0 : Nat))) := hB2.setCell (by simp) _
  have hS3 : w.heap.size + 3 ≤ (w2.setCell ⟨w.heap.size + 2, 0, none⟩ (.int .u64 (r0 : Nat))).heap.size := by simpa using hS2
  clear hP2 hX2 hR2 hB2 hS2
  generalize Value.agg pCells = PV at *
  go_upto_region 3 with fail
  generalize w2.setCell ⟨w.heap.size + 2, 0, none⟩ (.int .u64 (r0 : Nat)) = w3 at *
  clear x0 f0 e0
  go_step
  refine wpList_enter rfl 40 #[.int .u64 1] (by simp [go_sem]) _ _ (HON.out w3 (by decide)) ?_
  intro w4 b4
  refine wpList_alloc_box rfl 34 rfl (Array.replicate 16 (Value.int .u64 0)) (by intro w; simp [go_sem]; rfl) ?_
  refine wpList_store_box (cells := fArr (dig 1)) rfl 34 (.tmp 8) (.tmp 18) rfl (Box.new _ _ _) (by simp [go_sem, Act.put]) (by simp [go_sem, Act.put]) (by rw [fArr_size]; rfl) (by rw [fArr_size]; kernel_rfl) (fArr_one _) ?_
  intro w5 hO st
  have s1 := b4.size
  have hX := st.box ((hX3.after b4).alloc _) (by omega)
  have hR := st.box ((hR3.after b4).alloc _) (by omega)
  have hP := st.box ((hP3.after b4).alloc _) (by omega)
  have hB := st.below w.heap.size w (by omega) ((hB3.trans (b4.mono (by omega))).alloc (by omega) _)
  have hS : w4.heap.size + 1 ≤ w5.heap.size := by have := st.size; simp at this; omega
  have hHO : w.heap.size + 3 ≤ w4.heap.size := by omega
  simp only [Act.put, List.setIfInBounds_toArray, List.set_cons_zero, List.set_cons_succ]
  clear st b4 s1 hX3 hR3 hP3 hB3 hS3
  generalize w4.heap.size = O at *
  go_wp2_with fail
  go_loopw [9] (fun i wr => ∃ k : Nat, dn ≤ k ∧ k ≤ 256 ∧ i = .int .i64 ((k : Int) - 1) ∧ Box wr O 34 (fArr (dig (pw u (Q / 2 ^ k)))) ∧ Box wr w.heap.size 34 (fArr (dig u)) ∧ Box wr (w.heap.size + 1) 34 (Array.replicate 16 (Value.int .u64 0)) ∧ Box wr (w.heap.size + 2) 34 (fArr (dig Q)) ∧ Below w.heap.size w wr ∧ O + 1 ≤ wr.heap.size) (fun i _ => (intOf i + 1).toNat)
  case atStart => exact ⟨256, by omega, by omega, rfl, by rw [H0.out, show pw u 0 = 1 from by unfold pw P25; simp]; exact hO, hX, hR, hP, hB, hS⟩
  case round =>
    obtain ⟨wa, rfl⟩ : ∃ wa : World, wa = wr := ⟨_, rfl⟩
    obtain ⟨k, hdk, hk, rfl, hO, hX, hR, hP, hB, hS⟩ := hrel
    by_cases hlt : dn < k
    · obtain ⟨m, rfl⟩ : ∃ m, k = m + 1 := ⟨k - 1, by omega⟩
      rw [show (((m + 1 : Nat) : Int) - 1) = (m : Int) by omega]
      have hst := half_step Q m
      have hsq := pw_sq u (Q / 2 ^ (m + 1))
      have hmo := pw_more u (2 * (Q / 2 ^ (m + 1)))
      have hl0 := pw_lt u (Q / 2 ^ (m + 1))
      have hl1 := pw_lt u (2 * (Q / 2 ^ (m + 1)))
      have HM1 := Lib.hid (HMU.out _ _ hl0 hl0)
      rw [hsq] at HM1
      have HM2 := Lib.hid (HMU.out _ _ hl1 HU.out)
      rw [hmo] at HM2
      have hdb := dig_bit Q m
      have hdl := dig_lt Q (m / 16)
      have hbt2 : Q / 2 ^ m % 2 < 2 := Nat.mod_lt _ (by omega)
      obtain ⟨bt, hbt⟩ : ∃ bt, bt = Q / 2 ^ m % 2 := ⟨_, rfl⟩
      rw [← hbt] at hst hdb hbt2
      obtain ⟨z, hz⟩ : ∃ z, z = pw u (Q / 2 ^ (m + 1)) := ⟨_, rfl⟩
      obtain ⟨y, hy⟩ : ∃ y, y = pw u (2 * (Q / 2 ^ (m + 1))) := ⟨_, rfl⟩
      obtain ⟨x, hx⟩ : ∃ x, x = pw u (2 * (Q / 2 ^ (m + 1)) + 1) := ⟨_, rfl⟩
      rw [← hz, ← hy] at HM1
      rw [← hy, ← hx] at HM2
      rw [← hz] at hO
      have HY := Lib.hid (show bt = 0 → y = pw u (Q / 2 ^ m) from fun h => by rw [hy, hst, h]; rfl)
      have HXX := Lib.hid (show bt = 1 → x = pw u (Q / 2 ^ m) from fun h => by rw [hx, hst, h])
      clear hst hsq hmo hl0 hl1 hbt hz hy hx
      have b0 : (dn : Int) ≤ (m : Int) := by omega
      have b1 : (0 : Int) ≤ (m : Int) := by omega
      have b2 : (m : Int) ≤ 255 := by omega
      obtain ⟨q, hq⟩ : ∃ q, q = m / 16 := ⟨_, rfl⟩
      obtain ⟨r, hr⟩ : ∃ r, r = m % 16 := ⟨_, rfl⟩
      rw [← hq] at hdl
      rw [← hq, ← hr] at hdb
      have d1 : (m : Int) / 16 = (q : Int) := by omega
      have d2 : (m : Int) % 16 = (r : Int) := by omega
      have d3 : (m : Int).tdiv 16 = (q : Int) := by rw [Int.tdiv_eq_ediv_of_nonneg (by omega)]; omega
      have d4 : (m : Int).tmod 16 = (r : Int) := by rw [Int.tmod_eq_emod_of_nonneg (by omega)]; omega
      have hq16 : q < 16 := by omega
      have hr16 : r < 16 := by omega
      have b3 : (0 : Int) ≤ (q : Int) := by omega
      have b4 : (q : Int) < 16 := by omega
      clear hq hr
      go_upto_region 7 with fail
      go_step
      refine wpList_made 3 wa.heap.size wa (Below.refl _ _) ?_
      simp only [List.take_succ_cons, List.take_zero, List.drop_succ_cons, List.drop_zero]
      refine wpQ_load_box rfl 34 _ rfl hO (by rfl) hO.lt Try.underlying34 rfl (by rw [fArr_size]; kernel_rfl) ?_
      simp only [Act.put, List.setIfInBounds_toArray, List.set_cons_zero, List.set_cons_succ]
      refine wpQ_load_box rfl 34 _ rfl hO (by rfl) hO.lt Try.underlying34 rfl (by rw [fArr_size]; kernel_rfl) ?_
      simp only [Act.put, List.setIfInBounds_toArray, List.set_cons_zero, List.set_cons_succ]
      refine wpQ_call rfl 48 #[.agg (fArr (dig z)), .agg (fArr (dig z))] (fun w => by simp [go_sem]) _ (Nat.le_refl _) HM1.out ?_
      simp only [Act.put, List.setIfInBounds_toArray, List.set_cons_zero, List.set_cons_succ]
      intro wb1 bm
      refine wpList_store_box (cells := fArr (dig y)) rfl 34 (.tmp 8) (.tmp 26) rfl (hO.after bm) (by simp [go_sem]) (by simp [go_sem]) (by rw [fArr_size, fArr_size]) (by rw [fArr_size]; kernel_rfl) (fArr_one _) ?_
      intro wb2 hO2 sm
      have hX2 := sm.box (hX.after bm) (by omega)
      have hR2 := sm.box (hR.after bm) (by omega)
      have hP2 := sm.box (hP.after bm) (by omega)
      have hB2 := sm.below w.heap.size w (by omega) (hB.trans (bm.mono (by omega)))
      have hS2 : O + 1 ≤ wb2.heap.size := by have := sm.size; have := bm.size; omega
      simp only [Act.put]
      clear sm bm hO hX hR hP hB hS
      have gp := hP2.cell q (fArr_get _ q hq16)
      obtain ⟨g, hg⟩ : ∃ g, g = dig Q q := ⟨_, rfl⟩
      rw [← hg] at gp hdl hdb
      clear hg
      go_wp2_with fail
      have hg0 : ((g : Nat) : Int) = ((g / 2 ^ 0 : Nat) : Int) := by simp
      go_loop [10, 11] (fun b t => ∃ j : Nat, j ≤ r ∧ t = .int .i64 j ∧ b = .int .u64 (g / 2 ^ j : Nat)) (fun _ t => r - (intOf t).toNat)
      case atStart => exact ⟨0, by omega, rfl, by rw [← hg0]⟩
      case round =>
        clear hg0
        obtain ⟨j, hj, rfl, rfl⟩ := hrel
        have hjm : g / 2 ^ j < 65536 := Nat.lt_of_le_of_lt (Nat.div_le_self _ _) hdl
        by_cases hjr : j < r
        · have hn : g / 2 ^ (j + 1) = g / 2 ^ j / 2 := by rw [Nat.pow_succ, Nat.div_div_eq_div_mul]
          obtain ⟨a, ha⟩ : ∃ a, a = g / 2 ^ j := ⟨_, rfl⟩
          obtain ⟨a', ha'⟩ : ∃ a', a' = g / 2 ^ (j + 1) := ⟨_, rfl⟩
          rw [← ha, ← ha'] at hn
          rw [← ha] at hjm ⊢
          have e1 : (a : Int) / 2 = (a' : Int) := by omega
          have HA := Lib.hid ha'
          have hjr' : (j : Int) < (r : Int) := by omega
          clear ha ha' hn
          go_wp2_with fail
          refine ⟨⟨j + 1, by omega, by go_num, by rw [HA.out]⟩, by simp [intOf]; omega⟩
        · obtain rfl : j = r := by omega
          obtain ⟨a, ha⟩ : ∃ a, a = g / 2 ^ j := ⟨_, rfl⟩
          rw [← ha] at hjm hdb ⊢
          have e1 : (a : Int) % 2 = (bt : Int) := by omega
          have hjr' : ¬ (j : Int) < (j : Int) := by omega
          have hb01 : bt = 0 ∨ bt = 1 := by omega
          clear ha hdb hjr
          rcases hb01 with rfl | rfl
          · have e2 : (a : Int) % 2 = 0 := e1
            clear e1
            go_wp2_with fail
            exact ⟨⟨m, by omega, by omega, by go_num, by rw [← HY.out rfl]; exact hO2, hX2, hR2, hP2, hB2, hS2⟩, by simp [intOf]⟩
          · have e2 : (a : Int) % 2 = 1 := e1
            clear e1
            have hO := hO2
            have hX := hX2
            have hR := hR2
            have hP := hP2
            have hB := hB2
            have hS := hS2
            clear hO2 hX2 hR2 hP2 hB2 hS2
            go_upto_region 14 with fail
            go_step
            refine wpList_made 3 wb2.heap.size wb2 (Below.refl _ _) ?_
            simp only [List.take_succ_cons, List.take_zero, List.drop_succ_cons, List.drop_zero]
            refine wpQ_load_box rfl 34 _ rfl hO (by rfl) hO.lt Try.underlying34 rfl (by rw [fArr_size]; kernel_rfl) ?_
            simp only [Act.put, List.setIfInBounds_toArray, List.set_cons_zero, List.set_cons_succ]
            refine wpQ_load_box rfl 34 _ rfl hX (by rfl) hX.lt Try.underlying34 rfl (by rw [fArr_size]; kernel_rfl) ?_
            simp only [Act.put, List.setIfInBounds_toArray, List.set_cons_zero, List.set_cons_succ]
            refine wpQ_call rfl 48 #[.agg (fArr (dig y)), .agg (fArr (dig u))] (fun w => by simp [go_sem]) _ (Nat.le_refl _) HM2.out ?_
            simp only [Act.put, List.setIfInBounds_toArray, List.set_cons_zero, List.set_cons_succ]
            intro wd1 bm
            refine wpList_store_box (cells := fArr (dig x)) rfl 34 (.tmp 8) (.tmp 44) rfl (hO.after bm) (by simp [go_sem]) (by simp [go_sem]) (by rw [fArr_size, fArr_size]) (by rw [fArr_size]; kernel_rfl) (fArr_one _) ?_
            intro wd2 hO3 sm
            have hX3 := sm.box (hX.after bm) (by omega)
            have hR3 := sm.box (hR.after bm) (by omega)
            have hP3 := sm.box (hP.after bm) (by omega)
            have hB3 := sm.below w.heap.size w (by omega) (hB.trans (bm.mono (by omega)))
            have hS3 : O + 1 ≤ wd2.heap.size := by have := sm.size; have := bm.size; omega
            simp only [Act.put]
            clear sm bm hO hX hR hP hB hS
            go_wp2_with fail
            exact ⟨⟨m, by omega, by omega, by go_num, by rw [← HXX.out rfl]; exact hO3, hX3, hR3, hP3, hB3, hS3⟩, by simp [intOf]⟩
    · obtain rfl : k = dn := by omega
      have hlt' : ¬ (k : Int) ≤ (k : Int) - 1 := by omega
      obtain ⟨R, hRR⟩ : ∃ R, R = fArr (dig (pw u (Q / 2 ^ k))) := ⟨_, rfl⟩
      have HRS := Lib.hid (show R.size = 16 by rw [hRR]; exact fArr_size _)
      have HR1 := Lib.hid (show R.all (·.oneCell') = true by rw [hRR]; exact fArr_one _)
      rw [← hRR] at hO
      have HRR := Lib.hid hRR
      clear hRR
      go_upto_region 15 with fail
      go_step
      refine wpList_load_box rfl 34 _ rfl hO (by simp [go_sem]) Try.underlying34 rfl (by rw [HRS.out]; kernel_rfl) ?_
      refine wpList_store_box (cells := R) rfl 34 (.tmp 6) (.tmp 45) rfl hR (by simp [go_sem, Act.put]) (by simp [go_sem, Act.put]) (by rw [HRS.out]; rfl) (by rw [HRS.out]; kernel_rfl) HR1.out ?_
      intro w6 hR6 st6
      have hB6 := st6.below w.heap.size w (by omega) hB
      simp only [Act.put, List.setIfInBounds_toArray, List.set_cons_zero, List.set_cons_succ]
      clear st6 hO hX hR hP hB
      go_wp2_with fail
      exact bodyPost_ret (v := .agg R) (box_result rfl _ _ (by rfl) hR6 Try.underlying34 rfl (by rw [HRS.out]; kernel_rfl)) rfl ⟨by rw [HRR.out], hB6⟩
end Go.Proofs.Ytpkoniebbkkmjaa
namespace Go.Proofs.Ytpkoniebbkkmjaa
open Go.RowKit

/-- an element comes back, that is a number's -/
def RetEl (n : Nat) (w : World) (e : Ending) (w' : World) : Prop := ∃ z : L5, e = .returned (.agg (gArr z.at)) ∧ El z n ∧ Below w.heap.size w w'

theorem pow_el (x : L5) (u n l : Nat) (w : World) (hx : El x u) (h1 : 1 ≤ l) (h2 : l < 18446744073709551616) (h3 : 64 ≤ n) (h4 : n ≤ 255) :
    Calls Try.prog 59 #[.agg (gArr x.at), .int .i64 n, .int .u64 l] w (RetEl (pw u (2 ^ n - l)) w) := power_any x u n l w hx h1 h2 h3 h4

set_option maxRecDepth 100000 in
set_option maxHeartbeats 1000000 in
theorem inv_any (x : L5) (u : Nat) (w : World) (hx : El x u) : Calls Try.prog 34 #[.agg (gArr x.at)] w (RetEl (pw u (P25 - 2)) w) := by
  have HP := Lib.hid (fun w : World => pow_el x u 255 21 w hx (by omega) (by omega) (by omega) (by omega))
  rw [show 2 ^ 255 - 21 = P25 - 2 by unfold P25; simp only [Nat.reducePow]] at HP
  clear hx
  go_enter Try.func34, Try.ntmps34
  go_upto_region 1 with fail
  have g0 : Box ((w.alloc (.cells (gArr x.at) 27)).alloc (.cells #[.int .u64 0, .int .u64 0, .int .u64 0, .int .u64 0, .int .u64 0] 27)) w.heap.size 27 (gArr x.at) := (Box.new _ _ _).alloc _
  have g1 : Box ((w.alloc (.cells (gArr x.at) 27)).alloc (.cells #[.int .u64 0, .int .u64 0, .int .u64 0, .int .u64 0, .int .u64 0] 27)) (w.heap.size + 1) 27 #[.int .u64 0, .int .u64 0, .int .u64 0, .int .u64 0, .int .u64 0] := by
    have := Box.new (w.alloc (.cells (gArr x.at) 27)) 27 #[.int .u64 0, .int .u64 0, .int .u64 0, .int .u64 0, .int .u64 0]
    simp only [World.size_alloc] at this
    exact this
  have g3 : Below w.heap.size w ((w.alloc (.cells (gArr x.at) 27)).alloc (.cells #[.int .u64 0, .int .u64 0, .int .u64 0, .int .u64 0, .int .u64 0] 27)) := ((Below.refl w.heap.size w).alloc (Nat.le_refl _) _).alloc (by simp) _
  have g4 : w.heap.size + 2 ≤ ((w.alloc (.cells (gArr x.at) 27)).alloc (.cells #[.int .u64 0, .int .u64 0, .int .u64 0, .int .u64 0, .int .u64 0] 27)).heap.size := by simp
  change Code.wp _ _ _ _ ((w.alloc (.cells (gArr x.at) 27)).alloc (.cells #[.int .u64 0, .int .u64 0, .int .u64 0, .int .u64 0, .int .u64 0] 27))
  generalize ((w.alloc (.cells (gArr x.at) 27)).alloc (.cells #[.int .u64 0, .int .u64 0, .int .u64 0, .int .u64 0, .int .u64 0] 27)) = W at *
  go_step
  refine wpList_load_box rfl 27 _ rfl g0 (by rfl) Try.underlying27 rfl (by rw [gArr_size]; kernel_rfl) ?_
  refine wpList_enterR rfl 59 #[.agg (gArr x.at), .int .i64 255, .int .u64 21] (by simp [go_sem, Act.put]) _ (HP.out W) ?_
  rintro e w1 ⟨z, rfl, hz, b1⟩
  refine ⟨_, rfl, ?_⟩
  refine wpList_store_box (cells := gArr z.at) rfl 27 _ _ rfl (g1.after b1) (by rfl) (by rfl) (by rw [gArr_size]; rfl) (by rw [gArr_size]; kernel_rfl) (gArr_one _) ?_
  intro w2 hR st
  have hB := st.below w.heap.size w (by omega) (g3.trans (b1.mono (by omega)))
  simp only [Act.put, List.setIfInBounds_toArray, List.set_cons_zero, List.set_cons_succ]
  have HZ := Lib.hid hz
  clear st b1 g0 g1 g3 g4 hz
  go_wp2_with fail
  exact bodyPost_ret (v := .agg (gArr z.at)) (box_result rfl _ _ (by rfl) hR Try.underlying27 rfl (by rw [gArr_size]; kernel_rfl)) rfl ⟨z, rfl, HZ.out, hB⟩

set_option maxRecDepth 100000 in
set_option maxHeartbeats 1000000 in
theorem refInv_any (u : Nat) (w : World) (hu : u < P25) : Calls Try.prog 49 #[.agg (fArr (dig u))] w fun e w' => e = .returned (.agg (fArr (dig (pw u (P25 - 2))))) ∧ Below w.heap.size w w' := by
  have HP := Lib.hid (fun w : World => refPower_any u 2 0 w hu (by omega) (by omega))
  rw [show (P25 - 2) / 2 ^ 0 = P25 - 2 by rw [Nat.pow_zero, Nat.div_one]] at HP
  clear hu
  go_enter Try.func49, Try.ntmps49
  go_upto_region 1 with fail
  have g0 : Box ((w.alloc (.cells (fArr (dig u)) 34)).alloc (.cells (Array.replicate 16 (Value.int .u64 0)) 34)) w.heap.size 34 (fArr (dig u)) := (Box.new _ _ _).alloc _
  have g1 : Box ((w.alloc (.cells (fArr (dig u)) 34)).alloc (.cells (Array.replicate 16 (Value.int .u64 0)) 34)) (w.heap.size + 1) 34 (Array.replicate 16 (Value.int .u64 0)) := by
    have := Box.new (w.alloc (.cells (fArr (dig u)) 34)) 34 (Array.replicate 16 (Value.int .u64 0))
    simp only [World.size_alloc] at this
    exact this
  have g3 : Below w.heap.size w ((w.alloc (.cells (fArr (dig u)) 34)).alloc (.cells (Array.replicate 16 (Value.int .u64 0)) 34)) := ((Below.refl w.heap.size w).alloc (Nat.le_refl _) _).alloc (by simp) _
  have g4 : w.heap.size + 2 ≤ ((w.alloc (.cells (fArr (dig u)) 34)).alloc (.cells (Array.replicate 16 (Value.int .u64 0)) 34)).heap.size := by simp
  change Code.wp _ _ _ _ ((w.alloc (.cells (fArr (dig u)) 34)).alloc (.cells (Array.replicate 16 (Value.int .u64 0)) 34))
  generalize ((w.alloc (.cells (fArr (dig u)) 34)).alloc (.cells (Array.replicate 16 (Value.int .u64 0)) 34)) = W at *
  go_step
  refine wpList_load_box rfl 34 _ rfl g0 (by rfl) Try.underlying34 rfl (by rw [fArr_size]; kernel_rfl) ?_
  refine wpList_enter rfl 66 #[.agg (fArr (dig u)), .int .u64 2, .int .i64 0] (by simp [go_sem, Act.put]) _ _ (HP.out W) ?_
  intro w1 b1
  refine wpList_store_box (cells := fArr (dig (pw u (P25 - 2)))) rfl 34 _ _ rfl (g1.after b1) (by rfl) (by rfl) (by rw [fArr_size]; rfl) (by rw [fArr_size]; kernel_rfl) (fArr_one _) ?_
  intro w2 hR st
  have hB := st.below w.heap.size w (by omega) (g3.trans (b1.mono (by omega)))
  simp only [Act.put, List.setIfInBounds_toArray, List.set_cons_zero, List.set_cons_succ]
  clear st b1 g0 g1 g3 g4
  obtain ⟨R, hRR⟩ : ∃ R, R = fArr (dig (pw u (P25 - 2))) := ⟨_, rfl⟩
  rw [← hRR] at hR ⊢
  have HRS := Lib.hid (show R.size = 16 by rw [hRR]; exact fArr_size _)
  have HRR := Lib.hid hRR
  clear hRR
  go_wp2_with fail
  exact bodyPost_ret (v := .agg R) (box_result rfl _ _ (by rfl) hR Try.underlying34 rfl (by rw [HRS.out]; kernel_rfl)) rfl ⟨by rw [HRR.out], hB⟩
end Go.Proofs.Ytpkoniebbkkmjaa
namespace Go.Proofs.Ytpkoniebbkkmjaa
open Go.RowKit

/-- the first try -/
def rt0 (u : Nat) : Nat := pw u (2 ^ 252 - 2)
theorem rt0_def (u : Nat) : rt0 u = pw u (2 ^ 252 - 2) := by unfold rt0; rfl
def rt1 (u : Nat) : Nat := bif rt0 u * rt0 u % P25 == u then rt0 u else rt0 u * pw 2 (2 ^ 253 - 5) % P25
/-- the even root; whether there is one -/
def rtOk (u : Nat) : Bool := rt1 u * rt1 u % P25 == u
def rtN (u : Nat) : Nat := bif rtOk u then (bif rt1 u % 2 == 1 then P25 - rt1 u else rt1 u) else 0
def RetRoot (u : Nat) (w : World) (e : Ending) (w' : World) : Prop := ∃ z : L5, e = .returned (.tuple #[.agg (gArr z.at), .bool (rtOk u)]) ∧ El z (rtN u) ∧ Below w.heap.size w w'

theorem el_zero : El L5.zero 0 := ⟨⟨by decide, by decide, by decide, by decide, by decide⟩, by unfold P25; omega, rfl⟩
theorem el_two : El (ofL 2) 2 := ⟨lt_mono (ofL_lt 2 (by decide)) (by omega), by unfold P25; omega, by rw [ofL_val]; rfl⟩
theorem same_el {x y : L5} {u v : Nat} (hx : El x u) (hy : El y v) (w : World) : Calls Try.prog 36 #[.agg (gArr x.at), .agg (gArr y.at)] w fun e w' => e = .returned (.bool (u == v)) ∧ Below w.heap.size w w' :=
  same_g x y (u == v) (lt_mono hx.1 (by omega)) (lt_mono hy.1 (by omega)) (by rw [hx.2.2, hy.2.2]) w
theorem mul_el {x y : L5} {u v : Nat} (hx : El x u) (hy : El y v) (w : World) : Calls Try.prog 30 #[.agg (gArr x.at), .agg (gArr y.at)] w fun e w' => e = .returned (.agg (gArr (x.mul y).at)) ∧ Below w.heap.size w w' :=
  mul_g x y hx.1 hy.1 w

attribute [local irreducible] pw rt0 rt1

set_option maxRecDepth 100000 in
set_option maxHeartbeats 2000000 in
theorem root_any (x : L5) (u : Nat) (w : World) (hx : El x u) : Calls Try.prog 35 #[.agg (gArr x.at)] w (RetRoot u w) := by
  have HX := Lib.hid hx
  have HP := Lib.hid (fun w : World => pow_el x u 252 2 w hx (by omega) (by omega) (by omega) (by omega))
  have HP2 := Lib.hid (fun w : World => pow_el (ofL 2) 2 253 5 w el_two (by omega) (by omega) (by omega) (by omega))
  have HO2 := Lib.hid (of_g 2 (by decide))
  rw [← rt0_def] at HP
  obtain ⟨ns, hns⟩ : ∃ ns, ns = pw 2 (2 ^ 253 - 5) := ⟨_, rfl⟩
  rw [← hns] at HP2
  have HNS := Lib.hid hns
  clear hx hns
  go_enter Try.func35, Try.ntmps35
  go_upto_region 1 with fail
  have g0 : Box ((w.alloc (.cells (gArr x.at) 27)).alloc (.cells #[.int .u64 0, .int .u64 0, .int .u64 0, .int .u64 0, .int .u64 0] 27)) w.heap.size 27 (gArr x.at) := (Box.new _ _ _).alloc _
  have g1 : Box ((w.alloc (.cells (gArr x.at) 27)).alloc (.cells #[.int .u64 0, .int .u64 0, .int .u64 0, .int .u64 0, .int .u64 0] 27)) (w.heap.size + 1) 27 #[.int .u64 0, .int .u64 0, .int .u64 0, .int .u64 0, .int .u64 0] := by
    have := Box.new (w.alloc (.cells (gArr x.at) 27)) 27 #[.int .u64 0, .int .u64 0, .int .u64 0, .int .u64 0, .int .u64 0]
    simp only [World.size_alloc] at this
    exact this
  have g3 : Below w.heap.size w ((w.alloc (.cells (gArr x.at) 27)).alloc (.cells #[.int .u64 0, .int .u64 0, .int .u64 0, .int .u64 0, .int .u64 0] 27)) := ((Below.refl w.heap.size w).alloc (Nat.le_refl _) _).alloc (by simp) _
  have g4 : w.heap.size + 2 ≤ ((w.alloc (.cells (gArr x.at) 27)).alloc (.cells #[.int .u64 0, .int .u64 0, .int .u64 0, .int .u64 0, .int .u64 0] 27)).heap.size := by simp
  change Code.wp _ _ _ _ ((w.alloc (.cells (gArr x.at) 27)).alloc (.cells #[.int .u64 0, .int .u64 0, .int .u64 0, .int .u64 0, .int .u64 0] 27))
  generalize ((w.alloc (.cells (gArr x.at) 27)).alloc (.cells #[.int .u64 0, .int .u64 0, .int .u64 0, .int .u64 0, .int .u64 0] 27)) = W at *
  go_step
  refine wpList_load_box rfl 27 _ rfl g0 (by rfl) Try.underlying27 rfl (by rw [gArr_size]; kernel_rfl) ?_
  refine wpList_enterR rfl 59 #[.agg (gArr x.at), .int .i64 252, .int .u64 2] (by simp [go_sem, Act.put]) _ (HP.out W) ?_
  rintro e w1 ⟨y, rfl, hy, b1⟩
  refine ⟨_, rfl, ?_⟩
  refine wpList_alloc_box rfl 27 rfl #[.int .u64 0, .int .u64 0, .int .u64 0, .int .u64 0, .int .u64 0] (by intro w; simp [go_sem]) ?_
  refine wpList_store_box (cells := gArr y.at) rfl 27 (.tmp 4) (.tmp 6) rfl (Box.new _ _ _) (by simp [go_sem]) (by simp [go_sem, Act.put]) (by rw [gArr_size]; rfl) (by rw [gArr_size]; kernel_rfl) (gArr_one _) ?_
  intro w2 hY st
  have s1 := b1.size
  have hX := st.box ((g0.after b1).alloc _) (by omega)
  have hR := st.box ((g1.after b1).alloc _) (by omega)
  have hB := st.below w.heap.size w (by omega) ((g3.trans (b1.mono (by omega))).alloc (by omega) _)
  have hS : w1.heap.size + 1 ≤ w2.heap.size := by have := st.size; simp at this; omega
  have hHO : w.heap.size + 2 ≤ w1.heap.size := by omega
  simp only [Act.put, List.setIfInBounds_toArray, List.set_cons_zero, List.set_cons_succ]
  clear st b1 s1 g0 g1 g3 g4
  generalize w1.heap.size = O at *
  have HYY := Lib.hid (mul_el hy hy)
  have HSM := Lib.hid (same_el (el_mul hy hy) HX.out)
  obtain ⟨b, hb⟩ : ∃ b, b = (rt0 u * rt0 u % P25 == u) := ⟨_, rfl⟩
  rw [← hb] at HSM
  have HB := Lib.hid hb
  have HY := Lib.hid hy
  clear hb hy
  go_upto_region 2 with fail
  refine wp_region_made w2.heap.size w2 rfl (by kernel_rfl) (Below.refl _ _) ?_
  refine wpQ_load_box rfl 27 _ rfl hY (by rfl) hY.lt Try.underlying27 rfl (by rw [gArr_size]; kernel_rfl) ?_
  simp only [Act.put, List.setIfInBounds_toArray, List.set_cons_zero, List.set_cons_succ]
  refine wpQ_load_box rfl 27 _ rfl hY (by rfl) hY.lt Try.underlying27 rfl (by rw [gArr_size]; kernel_rfl) ?_
  simp only [Act.put, List.setIfInBounds_toArray, List.set_cons_zero, List.set_cons_succ]
  refine wpQ_call rfl 30 #[.agg (gArr y.at), .agg (gArr y.at)] (fun w => by simp [go_sem]) _ (Nat.le_refl _) HYY.out ?_
  simp only [Act.put, List.setIfInBounds_toArray, List.set_cons_zero, List.set_cons_succ]
  refine wpQ_load_box rfl 27 _ rfl hX (by rfl) hX.lt Try.underlying27 rfl (by rw [gArr_size]; kernel_rfl) ?_
  simp only [Act.put, List.setIfInBounds_toArray, List.set_cons_zero, List.set_cons_succ]
  refine wpQ_call rfl 36 #[.agg (gArr (y.mul y).at), .agg (gArr x.at)] (fun w => by simp [go_sem]) _ (Nat.le_refl _) HSM.out ?_
  simp only [Act.put, List.setIfInBounds_toArray, List.set_cons_zero, List.set_cons_succ]
  refine wpQ_run rfl (.bool (!b)) (fun w hw => by simp [go_sem]) ?_
  simp only [Act.put, List.setIfInBounds_toArray, List.set_cons_zero, List.set_cons_succ]
  intro w3 bm
  replace hX := hX.after bm
  replace hR := hR.after bm
  replace hY := hY.after bm
  replace hB := hB.trans (bm.mono (by omega))
  replace hS : O + 1 ≤ w3.heap.size := by have := bm.size; omega
  clear bm
  clear HYY HSM
  cases b with
  | true =>
    have HT : Hid (El y (rt1 u)) := Lib.hid (by unfold rt1; rw [← HB.out, cond_true]; exact HY.out)
    have HYY := Lib.hid (mul_el HT.out HT.out)
    have HSM := Lib.hid (same_el (el_mul HT.out HT.out) HX.out)
    obtain ⟨b2, hb2⟩ : ∃ b2, b2 = rtOk u := ⟨_, rfl⟩
    rw [show (rt1 u * rt1 u % P25 == u) = rtOk u from rfl, ← hb2] at HSM
    have HB2 := Lib.hid hb2
    clear hb2
    go_upto_region 4 with fail
    refine wp_region_made w3.heap.size w3 rfl (by kernel_rfl) (Below.refl _ _) ?_
    refine wpQ_load_box rfl 27 _ rfl hY (by rfl) hY.lt Try.underlying27 rfl (by rw [gArr_size]; kernel_rfl) ?_
    simp only [Act.put, List.setIfInBounds_toArray, List.set_cons_zero, List.set_cons_succ]
    refine wpQ_load_box rfl 27 _ rfl hY (by rfl) hY.lt Try.underlying27 rfl (by rw [gArr_size]; kernel_rfl) ?_
    simp only [Act.put, List.setIfInBounds_toArray, List.set_cons_zero, List.set_cons_succ]
    refine wpQ_call rfl 30 #[.agg (gArr y.at), .agg (gArr y.at)] (fun w => by simp [go_sem]) _ (Nat.le_refl _) HYY.out ?_
    simp only [Act.put, List.setIfInBounds_toArray, List.set_cons_zero, List.set_cons_succ]
    refine wpQ_load_box rfl 27 _ rfl hX (by rfl) hX.lt Try.underlying27 rfl (by rw [gArr_size]; kernel_rfl) ?_
    simp only [Act.put, List.setIfInBounds_toArray, List.set_cons_zero, List.set_cons_succ]
    refine wpQ_call rfl 36 #[.agg (gArr (y.mul y).at), .agg (gArr x.at)] (fun w => by simp [go_sem]) _ (Nat.le_refl _) HSM.out ?_
    simp only [Act.put, List.setIfInBounds_toArray, List.set_cons_zero, List.set_cons_succ]
    refine wpQ_run rfl (.bool (!b2)) (fun w hw => by simp [go_sem]) ?_
    simp only [Act.put, List.setIfInBounds_toArray, List.set_cons_zero, List.set_cons_succ]
    intro w8 bm
    replace hX := hX.after bm
    replace hR := hR.after bm
    replace hY := hY.after bm
    replace hB := hB.trans (bm.mono (by omega))
    replace hS : O + 1 ≤ w8.heap.size := by have := bm.size; omega
    clear bm
    clear HYY HSM
    cases b2 with
    | false =>
      go_upto_region 5 with fail
      go_step
      refine wpList_value rfl (.agg #[.int .u64 0, .int .u64 0, .int .u64 0, .int .u64 0, .int .u64 0]) (by simp [go_sem]) ?_
      refine wpList_store_box (cells := #[.int .u64 0, .int .u64 0, .int .u64 0, .int .u64 0, .int .u64 0]) rfl 27 (.tmp 2) (.tmp 23) rfl hR (by simp [go_sem, Act.put]) (by simp [go_sem, Act.put]) rfl (by kernel_rfl) (gArr_one L5.zero.at) ?_
      intro wz hR9 st9
      have hB9 := st9.below w.heap.size w (by omega) hB
      refine wpList_value rfl (.bool false) (by simp [go_sem]) ?_
      simp only [Act.put, List.setIfInBounds_toArray, List.set_cons_zero, List.set_cons_succ]
      clear st9 hX hR hY hB hS
      go_wp2_with fail
      exact bodyPost_ret (v := .tuple #[.agg #[.int .u64 0, .int .u64 0, .int .u64 0, .int .u64 0, .int .u64 0], .bool false]) (box_result2 (p := 2) (q := 3) rfl _ _ (by rfl) hR9 Try.underlying27 rfl (by kernel_rfl)) rfl ⟨L5.zero, by rw [← HB2.out]; rfl, by unfold rtN; rw [← HB2.out, cond_false]; exact el_zero, hB9⟩
    | true =>
      have HOK : Hid (rtOk u = true) := Lib.hid HB2.out.symm
      obtain ⟨o, ho⟩ : ∃ o, o = (rt1 u % 2 == 1) := ⟨_, rfl⟩
      have HODD : Hid (∀ w : World, Calls Try.prog 42 #[.agg (gArr y.at)] w fun e w' => e = .returned (.bool o) ∧ Below w.heap.size w w') := by
        refine Lib.hid fun w => ?_
        have := odd_any y w (lt_mono HT.out.1 (by omega))
        rw [HT.out.2.2, ← ho] at this
        exact this
      have HO := Lib.hid ho
      clear ho
      go_upto_region 6 with fail
      go_step
      refine wpList_made 2 w8.heap.size w8 (Below.refl _ _) ?_
      simp only [List.take_succ_cons, List.take_zero, List.drop_succ_cons, List.drop_zero]
      refine wpQ_load_box rfl 27 _ rfl hY (by rfl) hY.lt Try.underlying27 rfl (by rw [gArr_size]; kernel_rfl) ?_
      simp only [Act.put, List.setIfInBounds_toArray, List.set_cons_zero, List.set_cons_succ]
      refine wpQ_call rfl 42 #[.agg (gArr y.at)] (fun w => by simp [go_sem]) _ (Nat.le_refl _) HODD.out ?_
      simp only [Act.put, List.setIfInBounds_toArray, List.set_cons_zero, List.set_cons_succ]
      intro w9 bm
      replace hX := hX.after bm
      replace hR := hR.after bm
      replace hY := hY.after bm
      replace hB := hB.trans (bm.mono (by omega))
      replace hS : O + 1 ≤ w9.heap.size := by have := bm.size; omega
      clear bm HODD
      cases o with
      | false =>
        go_upto_region 8 with fail
        go_step
        refine wpList_load_box rfl 27 _ rfl hY (by simp [go_sem]) Try.underlying27 rfl (by rw [gArr_size]; kernel_rfl) ?_
        refine wpList_store_box (cells := gArr y.at) rfl 27 (.tmp 2) (.tmp 29) rfl hR (by simp [go_sem]) (by simp [go_sem, Act.put]) (by rw [gArr_size]; rfl) (by rw [gArr_size]; kernel_rfl) (gArr_one _) ?_
        intro wz hR9 st9
        have hB9 := st9.below w.heap.size w (by omega) hB
        refine wpList_value rfl (.bool true) (by simp [go_sem]) ?_
        simp only [Act.put, List.setIfInBounds_toArray, List.set_cons_zero, List.set_cons_succ]
        have HEL : Hid (El y (rtN u)) := Lib.hid (by unfold rtN; rw [HOK.out, ← HO.out, cond_true, cond_false]; exact HT.out)
        clear st9 hX hR hY hB hS
        obtain ⟨G, hG⟩ : ∃ G, G = gArr y.at := ⟨_, rfl⟩
        rw [← hG] at hR9
        have HGS := Lib.hid (show G.size = 5 by rw [hG]; exact gArr_size _)
        have HG := Lib.hid hG
        clear hG
        go_wp2_with fail
        exact bodyPost_ret (v := .tuple #[.agg G, .bool true]) (box_result2 (p := 2) (q := 3) rfl _ _ (by rfl) hR9 Try.underlying27 rfl (by rw [HGS.out]; kernel_rfl)) rfl ⟨y, by rw [HG.out, HOK.out], HEL.out, hB9⟩
      | true =>
        have HSUB := Lib.hid (sub_g L5.zero y (lt_mono el_zero.1 (by omega)) (lt_mono HT.out.1 (by omega)))
        have hz2 : El (L5.zero.sub y) (P25 - rt1 u) := by
          have h1 := el_sub el_zero HT.out
          have h2 : rt1 u % 2 = 1 := by have := HO.out; simpa using this.symm
          have h3 := HT.out.2.1
          rw [Nat.zero_add, Nat.mod_eq_of_lt (by omega)] at h1
          exact h1
        have HZ2 := Lib.hid hz2
        clear hz2
        go_upto_region 7 with fail
        go_step
        refine wpList_made 3 w9.heap.size w9 (Below.refl _ _) ?_
        simp only [List.take_succ_cons, List.take_zero, List.drop_succ_cons, List.drop_zero]
        refine wpQ_run rfl (.agg (gArr L5.zero.at)) (fun w hw => by simp [go_sem]; rfl) ?_
        simp only [Act.put, List.setIfInBounds_toArray, List.set_cons_zero, List.set_cons_succ]
        refine wpQ_load_box rfl 27 _ rfl hY (by rfl) hY.lt Try.underlying27 rfl (by rw [gArr_size]; kernel_rfl) ?_
        simp only [Act.put, List.setIfInBounds_toArray, List.set_cons_zero, List.set_cons_succ]
        refine wpQ_call rfl 31 #[.agg (gArr L5.zero.at), .agg (gArr y.at)] (fun w => by simp [go_sem]) _ (Nat.le_refl _) HSUB.out ?_
        simp only [Act.put, List.setIfInBounds_toArray, List.set_cons_zero, List.set_cons_succ]
        intro wc bm
        refine wpList_store_box (cells := gArr (L5.zero.sub y).at) rfl 27 (.tmp 4) (.tmp 28) rfl (hY.after bm) (by simp [go_sem]) (by simp [go_sem]) (by rw [gArr_size, gArr_size]) (by rw [gArr_size]; kernel_rfl) (gArr_one _) ?_
        intro wd hY9 sm
        replace hX := sm.box (hX.after bm) (by omega)
        replace hR := sm.box (hR.after bm) (by omega)
        replace hB := sm.below w.heap.size w (by omega) (hB.trans (bm.mono (by omega)))
        replace hS : O + 1 ≤ wd.heap.size := by have := sm.size; have := bm.size; omega
        simp only [Act.put]
        clear sm bm hY
        have hY := hY9
        clear hY9
        go_upto_region 8 with fail
        go_step
        refine wpList_load_box rfl 27 _ rfl hY (by simp [go_sem]) Try.underlying27 rfl (by rw [gArr_size]; kernel_rfl) ?_
        refine wpList_store_box (cells := gArr (L5.zero.sub y).at) rfl 27 (.tmp 2) (.tmp 29) rfl hR (by simp [go_sem]) (by simp [go_sem, Act.put]) (by rw [gArr_size]; rfl) (by rw [gArr_size]; kernel_rfl) (gArr_one _) ?_
        intro wz hR9 st9
        have hB9 := st9.below w.heap.size w (by omega) hB
        refine wpList_value rfl (.bool true) (by simp [go_sem]) ?_
        simp only [Act.put, List.setIfInBounds_toArray, List.set_cons_zero, List.set_cons_succ]
        have HEL : Hid (El (L5.zero.sub y) (rtN u)) := Lib.hid (by unfold rtN; rw [HOK.out, ← HO.out, cond_true, cond_true]; exact HZ2.out)
        clear st9 hX hR hY hB hS
        obtain ⟨G, hG⟩ : ∃ G, G = gArr (L5.zero.sub y).at := ⟨_, rfl⟩
        rw [← hG] at hR9
        have HGS := Lib.hid (show G.size = 5 by rw [hG]; exact gArr_size _)
        have HG := Lib.hid hG
        clear hG
        go_wp2_with fail
        exact bodyPost_ret (v := .tuple #[.agg G, .bool true]) (box_result2 (p := 2) (q := 3) rfl _ _ (by rfl) hR9 Try.underlying27 rfl (by rw [HGS.out]; kernel_rfl)) rfl ⟨(L5.zero.sub y), by rw [HG.out, HOK.out], HEL.out, hB9⟩
  | false =>
    go_upto_region 3 with fail
    go_cut [4] from 13 (fun s4 w' => s4 = Value.pointer (some ⟨O, 0, none⟩) ∧ ∃ y2 : L5, El y2 (rt1 u) ∧ Box w' O 27 (gArr y2.at) ∧ Box w' w.heap.size 27 (gArr x.at) ∧ Box w' (w.heap.size + 1) 27 #[.int .u64 0, .int .u64 0, .int .u64 0, .int .u64 0, .int .u64 0] ∧ Below w.heap.size w w' ∧ O + 1 ≤ w'.heap.size)
    case first =>
      have hq0 : Below (w.heap.size + 2) w3 w3.drew := (Below.refl _ _).drew
      refine wp_region_held_drew (S := fun w' => Below (w.heap.size + 2) w3 w') rfl hq0 (fun _ => ?_)
      refine wpH_run_or_enter 0 1 rfl rfl (by kernel_rfl) rfl rfl (.agg (gArr y.at)) (run_load_box rfl hY.drew (by simp [go_sem]) Try.underlying27 rfl (by rw [gArr_size]; kernel_rfl)) hq0 29 #[.int .u64 2] (by simp [go_sem]) _ (HO2.out _) ?_ ?_
      · refine wpH_enter 1 rfl (by kernel_rfl) rfl 29 #[.int .u64 2] (by simp [go_sem, Act.put]) _ (HO2.out _) ?_
        rintro e w4 ⟨rfl, b4⟩
        have k4 := hq0.trans (b4.mono (by simp; omega))
        have y4 := hY.drew.after b4
        refine ⟨_, rfl, k4, ?_⟩
        refine wpH_enter 2 rfl (by kernel_rfl) rfl 59 #[.agg (gArr (ofL 2).at), .int .i64 253, .int .u64 5] (by simp [go_sem, Act.put]) _ (HP2.out _) ?_
        rintro e w5 ⟨s, rfl, hs, b5⟩
        have k5 := k4.trans (b5.mono (by have := k4.size; omega))
        have y5 := y4.after b5
        refine ⟨_, rfl, k5, ?_⟩
        refine wpH_enter 3 rfl (by kernel_rfl) rfl 30 #[.agg (gArr y.at), .agg (gArr s.at)] (by simp [go_sem, Act.put]) _ (mul_el HY.out hs w5) ?_
        rintro e w6 ⟨rfl, b6⟩
        have k6 := k5.trans (b6.mono (by have := k5.size; simp at this ⊢; omega))
        refine ⟨_, rfl, k6, ?_⟩
        refine wpH_store_box (cells := gArr (y.mul s).at) 4 rfl (by kernel_rfl) rfl 27 (.tmp 4) (.tmp 16) rfl (y5.after b6) (by simp [go_sem, Act.put]) (by simp [go_sem, Act.put]) (by rw [gArr_size, gArr_size]) (by rw [gArr_size]; kernel_rfl) (gArr_one _) ?_
        intro w7 hY7 s7
        have k7 := s7.below _ _ (by omega) k6
        refine ⟨k7, ?_⟩
        refine wpAnyH_done (by kernel_rfl) ?_ _
        have fin : Value.pointer (some ⟨O, 0, none⟩) = .pointer (some ⟨O, 0, none⟩) ∧ ∃ y2 : L5, El y2 (rt1 u) ∧ Box w7 O 27 (gArr y2.at) ∧ Box w7 w.heap.size 27 (gArr x.at) ∧ Box w7 (w.heap.size + 1) 27 #[.int .u64 0, .int .u64 0, .int .u64 0, .int .u64 0, .int .u64 0] ∧ Below w.heap.size w w7 ∧ O + 1 ≤ w7.heap.size :=
          ⟨rfl, y.mul s, by have h := el_mul HY.out hs; unfold rt1; rw [← HB.out, cond_false, ← HNS.out]; exact h, hY7, hX.below k7 (by omega), hR.below k7 (by omega), hB.trans (k7.mono (by omega)), by have := k7.size; omega⟩
        simp only [Act.put, List.setIfInBounds_toArray, List.set_cons_zero, List.set_cons_succ]
        clear s7 b6 k6 k7 hX hR hY hB hS
        go_wp2_with fail
        go_meet
        case rel => exact ⟨rfl, fin.2⟩
      · rintro e w4 ⟨rfl, b4⟩
        have k4 := hq0.trans (b4.mono (by simp; omega))
        have y4 := hY.drew.after b4
        refine ⟨_, rfl, k4, ?_⟩
        refine wpH_run_or_enter 0 2 rfl rfl (by kernel_rfl) rfl rfl (.agg (gArr y.at)) (run_load_box rfl y4 (by simp [go_sem, Act.put]) Try.underlying27 rfl (by rw [gArr_size]; kernel_rfl)) k4 59 #[.agg (gArr (ofL 2).at), .int .i64 253, .int .u64 5] (by simp [go_sem, Act.put]) _ (HP2.out _) ?_ ?_
        · refine wpH_enter 2 rfl (by kernel_rfl) rfl 59 #[.agg (gArr (ofL 2).at), .int .i64 253, .int .u64 5] (by simp [go_sem, Act.put]) _ (HP2.out _) ?_
          rintro e w5 ⟨s, rfl, hs, b5⟩
          have k5 := k4.trans (b5.mono (by have := k4.size; omega))
          have y5 := y4.after b5
          refine ⟨_, rfl, k5, ?_⟩
          refine wpH_enter 3 rfl (by kernel_rfl) rfl 30 #[.agg (gArr y.at), .agg (gArr s.at)] (by simp [go_sem, Act.put]) _ (mul_el HY.out hs w5) ?_
          rintro e w6 ⟨rfl, b6⟩
          have k6 := k5.trans (b6.mono (by have := k5.size; simp at this ⊢; omega))
          refine ⟨_, rfl, k6, ?_⟩
          refine wpH_store_box (cells := gArr (y.mul s).at) 4 rfl (by kernel_rfl) rfl 27 (.tmp 4) (.tmp 16) rfl (y5.after b6) (by simp [go_sem, Act.put]) (by simp [go_sem, Act.put]) (by rw [gArr_size, gArr_size]) (by rw [gArr_size]; kernel_rfl) (gArr_one _) ?_
          intro w7 hY7 s7
          have k7 := s7.below _ _ (by omega) k6
          refine ⟨k7, ?_⟩
          refine wpAnyH_done (by kernel_rfl) ?_ _
          have fin : Value.pointer (some ⟨O, 0, none⟩) = .pointer (some ⟨O, 0, none⟩) ∧ ∃ y2 : L5, El y2 (rt1 u) ∧ Box w7 O 27 (gArr y2.at) ∧ Box w7 w.heap.size 27 (gArr x.at) ∧ Box w7 (w.heap.size + 1) 27 #[.int .u64 0, .int .u64 0, .int .u64 0, .int .u64 0, .int .u64 0] ∧ Below w.heap.size w w7 ∧ O + 1 ≤ w7.heap.size :=
            ⟨rfl, y.mul s, by have h := el_mul HY.out hs; unfold rt1; rw [← HB.out, cond_false, ← HNS.out]; exact h, hY7, hX.below k7 (by omega), hR.below k7 (by omega), hB.trans (k7.mono (by omega)), by have := k7.size; omega⟩
          simp only [Act.put, List.setIfInBounds_toArray, List.set_cons_zero, List.set_cons_succ]
          clear s7 b6 k6 k7 hX hR hY hB hS
          go_wp2_with fail
          go_meet
          case rel => exact ⟨rfl, fin.2⟩
        · rintro e w5 ⟨s, rfl, hs, b5⟩
          have k5 := k4.trans (b5.mono (by have := k4.size; omega))
          have y5 := y4.after b5
          refine ⟨_, rfl, k5, ?_⟩
          refine wpH_run 0 rfl (by kernel_rfl) rfl (.agg (gArr y.at)) w5 (run_load_box rfl y5 (by simp [go_sem, Act.put]) Try.underlying27 rfl (by rw [gArr_size]; kernel_rfl)) k5 ?_
          refine wpH_enter 3 rfl (by kernel_rfl) rfl 30 #[.agg (gArr y.at), .agg (gArr s.at)] (by simp [go_sem, Act.put]) _ (mul_el HY.out hs w5) ?_
          rintro e w6 ⟨rfl, b6⟩
          have k6 := k5.trans (b6.mono (by have := k5.size; simp at this ⊢; omega))
          refine ⟨_, rfl, k6, ?_⟩
          refine wpH_store_box (cells := gArr (y.mul s).at) 4 rfl (by kernel_rfl) rfl 27 (.tmp 4) (.tmp 16) rfl (y5.after b6) (by simp [go_sem, Act.put]) (by simp [go_sem, Act.put]) (by rw [gArr_size, gArr_size]) (by rw [gArr_size]; kernel_rfl) (gArr_one _) ?_
          intro w7 hY7 s7
          have k7 := s7.below _ _ (by omega) k6
          refine ⟨k7, ?_⟩
          refine wpAnyH_done (by kernel_rfl) ?_ _
          have fin : Value.pointer (some ⟨O, 0, none⟩) = .pointer (some ⟨O, 0, none⟩) ∧ ∃ y2 : L5, El y2 (rt1 u) ∧ Box w7 O 27 (gArr y2.at) ∧ Box w7 w.heap.size 27 (gArr x.at) ∧ Box w7 (w.heap.size + 1) 27 #[.int .u64 0, .int .u64 0, .int .u64 0, .int .u64 0, .int .u64 0] ∧ Below w.heap.size w w7 ∧ O + 1 ≤ w7.heap.size :=
            ⟨rfl, y.mul s, by have h := el_mul HY.out hs; unfold rt1; rw [← HB.out, cond_false, ← HNS.out]; exact h, hY7, hX.below k7 (by omega), hR.below k7 (by omega), hB.trans (k7.mono (by omega)), by have := k7.size; omega⟩
          simp only [Act.put, List.setIfInBounds_toArray, List.set_cons_zero, List.set_cons_succ]
          clear s7 b6 k6 k7 hX hR hY hB hS
          go_wp2_with fail
          go_meet
          case rel => exact ⟨rfl, fin.2⟩
    case rest =>
      obtain ⟨rfl, y2, hy2, hY, hX, hR, hB, hS⟩ := hcut
      have HT := Lib.hid hy2
      clear hy2
      have HYY := Lib.hid (mul_el HT.out HT.out)
      have HSM := Lib.hid (same_el (el_mul HT.out HT.out) HX.out)
      obtain ⟨b2, hb2⟩ : ∃ b2, b2 = rtOk u := ⟨_, rfl⟩
      rw [show (rt1 u * rt1 u % P25 == u) = rtOk u from rfl, ← hb2] at HSM
      have HB2 := Lib.hid hb2
      clear hb2
      go_upto_region 4 with fail
      refine wp_region_made wc.heap.size wc rfl (by kernel_rfl) (Below.refl _ _) ?_
      refine wpQ_load_box rfl 27 _ rfl hY (by rfl) hY.lt Try.underlying27 rfl (by rw [gArr_size]; kernel_rfl) ?_
      simp only [Act.put, List.setIfInBounds_toArray, List.set_cons_zero, List.set_cons_succ]
      refine wpQ_load_box rfl 27 _ rfl hY (by rfl) hY.lt Try.underlying27 rfl (by rw [gArr_size]; kernel_rfl) ?_
      simp only [Act.put, List.setIfInBounds_toArray, List.set_cons_zero, List.set_cons_succ]
      refine wpQ_call rfl 30 #[.agg (gArr y2.at), .agg (gArr y2.at)] (fun w => by simp [go_sem]) _ (Nat.le_refl _) HYY.out ?_
      simp only [Act.put, List.setIfInBounds_toArray, List.set_cons_zero, List.set_cons_succ]
      refine wpQ_load_box rfl 27 _ rfl hX (by rfl) hX.lt Try.underlying27 rfl (by rw [gArr_size]; kernel_rfl) ?_
      simp only [Act.put, List.setIfInBounds_toArray, List.set_cons_zero, List.set_cons_succ]
      refine wpQ_call rfl 36 #[.agg (gArr (y2.mul y2).at), .agg (gArr x.at)] (fun w => by simp [go_sem]) _ (Nat.le_refl _) HSM.out ?_
      simp only [Act.put, List.setIfInBounds_toArray, List.set_cons_zero, List.set_cons_succ]
      refine wpQ_run rfl (.bool (!b2)) (fun w hw => by simp [go_sem]) ?_
      simp only [Act.put, List.setIfInBounds_toArray, List.set_cons_zero, List.set_cons_succ]
      intro w8 bm
      replace hX := hX.after bm
      replace hR := hR.after bm
      replace hY := hY.after bm
      replace hB := hB.trans (bm.mono (by omega))
      replace hS : O + 1 ≤ w8.heap.size := by have := bm.size; omega
      clear bm
      clear HYY HSM
      cases b2 with
      | false =>
        go_upto_region 5 with fail
        go_step
        refine wpList_value rfl (.agg #[.int .u64 0, .int .u64 0, .int .u64 0, .int .u64 0, .int .u64 0]) (by simp [go_sem]) ?_
        refine wpList_store_box (cells := #[.int .u64 0, .int .u64 0, .int .u64 0, .int .u64 0, .int .u64 0]) rfl 27 (.tmp 2) (.tmp 23) rfl hR (by simp [go_sem, Act.put]) (by simp [go_sem, Act.put]) rfl (by kernel_rfl) (gArr_one L5.zero.at) ?_
        intro wz hR9 st9
        have hB9 := st9.below w.heap.size w (by omega) hB
        refine wpList_value rfl (.bool false) (by simp [go_sem]) ?_
        simp only [Act.put, List.setIfInBounds_toArray, List.set_cons_zero, List.set_cons_succ]
        clear st9 hX hR hY hB hS
        go_wp2_with fail
        exact bodyPost_ret (v := .tuple #[.agg #[.int .u64 0, .int .u64 0, .int .u64 0, .int .u64 0, .int .u64 0], .bool false]) (box_result2 (p := 2) (q := 3) rfl _ _ (by rfl) hR9 Try.underlying27 rfl (by kernel_rfl)) rfl ⟨L5.zero, by rw [← HB2.out]; rfl, by unfold rtN; rw [← HB2.out, cond_false]; exact el_zero, hB9⟩
      | true =>
        have HOK : Hid (rtOk u = true) := Lib.hid HB2.out.symm
        obtain ⟨o, ho⟩ : ∃ o, o = (rt1 u % 2 == 1) := ⟨_, rfl⟩
        have HODD : Hid (∀ w : World, Calls Try.prog 42 #[.agg (gArr y2.at)] w fun e w' => e = .returned (.bool o) ∧ Below w.heap.size w w') := by
          refine Lib.hid fun w => ?_
          have := odd_any y2 w (lt_mono HT.out.1 (by omega))
          rw [HT.out.2.2, ← ho] at this
          exact this
        have HO := Lib.hid ho
        clear ho
        go_upto_region 6 with fail
        go_step
        refine wpList_made 2 w8.heap.size w8 (Below.refl _ _) ?_
        simp only [List.take_succ_cons, List.take_zero, List.drop_succ_cons, List.drop_zero]
        refine wpQ_load_box rfl 27 _ rfl hY (by rfl) hY.lt Try.underlying27 rfl (by rw [gArr_size]; kernel_rfl) ?_
        simp only [Act.put, List.setIfInBounds_toArray, List.set_cons_zero, List.set_cons_succ]
        refine wpQ_call rfl 42 #[.agg (gArr y2.at)] (fun w => by simp [go_sem]) _ (Nat.le_refl _) HODD.out ?_
        simp only [Act.put, List.setIfInBounds_toArray, List.set_cons_zero, List.set_cons_succ]
        intro w9 bm
        replace hX := hX.after bm
        replace hR := hR.after bm
        replace hY := hY.after bm
        replace hB := hB.trans (bm.mono (by omega))
        replace hS : O + 1 ≤ w9.heap.size := by have := bm.size; omega
        clear bm HODD
        cases o with
        | false =>
          go_upto_region 8 with fail
          go_step
          refine wpList_load_box rfl 27 _ rfl hY (by simp [go_sem]) Try.underlying27 rfl (by rw [gArr_size]; kernel_rfl) ?_
          refine wpList_store_box (cells := gArr y2.at) rfl 27 (.tmp 2) (.tmp 29) rfl hR (by simp [go_sem]) (by simp [go_sem, Act.put]) (by rw [gArr_size]; rfl) (by rw [gArr_size]; kernel_rfl) (gArr_one _) ?_
          intro wz hR9 st9
          have hB9 := st9.below w.heap.size w (by omega) hB
          refine wpList_value rfl (.bool true) (by simp [go_sem]) ?_
          simp only [Act.put, List.setIfInBounds_toArray, List.set_cons_zero, List.set_cons_succ]
          have HEL : Hid (El y2 (rtN u)) := Lib.hid (by unfold rtN; rw [HOK.out, ← HO.out, cond_true, cond_false]; exact HT.out)
          clear st9 hX hR hY hB hS
          obtain ⟨G, hG⟩ : ∃ G, G = gArr y2.at := ⟨_, rfl⟩
          rw [← hG] at hR9
          have HGS := Lib.hid (show G.size = 5 by rw [hG]; exact gArr_size _)
          have HG := Lib.hid hG
          clear hG
          go_wp2_with fail
          exact bodyPost_ret (v := .tuple #[.agg G, .bool true]) (box_result2 (p := 2) (q := 3) rfl _ _ (by rfl) hR9 Try.underlying27 rfl (by rw [HGS.out]; kernel_rfl)) rfl ⟨y2, by rw [HG.out, HOK.out], HEL.out, hB9⟩
        | true =>
          have HSUB := Lib.hid (sub_g L5.zero y2 (lt_mono el_zero.1 (by omega)) (lt_mono HT.out.1 (by omega)))
          have hz2 : El (L5.zero.sub y2) (P25 - rt1 u) := by
            have h1 := el_sub el_zero HT.out
            have h2 : rt1 u % 2 = 1 := by have := HO.out; simpa using this.symm
            have h3 := HT.out.2.1
            rw [Nat.zero_add, Nat.mod_eq_of_lt (by omega)] at h1
            exact h1
          have HZ2 := Lib.hid hz2
          clear hz2
          go_upto_region 7 with fail
          go_step
          refine wpList_made 3 w9.heap.size w9 (Below.refl _ _) ?_
          simp only [List.take_succ_cons, List.take_zero, List.drop_succ_cons, List.drop_zero]
          refine wpQ_run rfl (.agg (gArr L5.zero.at)) (fun w hw => by simp [go_sem]; rfl) ?_
          simp only [Act.put, List.setIfInBounds_toArray, List.set_cons_zero, List.set_cons_succ]
          refine wpQ_load_box rfl 27 _ rfl hY (by rfl) hY.lt Try.underlying27 rfl (by rw [gArr_size]; kernel_rfl) ?_
          simp only [Act.put, List.setIfInBounds_toArray, List.set_cons_zero, List.set_cons_succ]
          refine wpQ_call rfl 31 #[.agg (gArr L5.zero.at), .agg (gArr y2.at)] (fun w => by simp [go_sem]) _ (Nat.le_refl _) HSUB.out ?_
          simp only [Act.put, List.setIfInBounds_toArray, List.set_cons_zero, List.set_cons_succ]
          intro wc bm
          refine wpList_store_box (cells := gArr (L5.zero.sub y2).at) rfl 27 (.tmp 4) (.tmp 28) rfl (hY.after bm) (by simp [go_sem]) (by simp [go_sem]) (by rw [gArr_size, gArr_size]) (by rw [gArr_size]; kernel_rfl) (gArr_one _) ?_
          intro wd hY9 sm
          replace hX := sm.box (hX.after bm) (by omega)
          replace hR := sm.box (hR.after bm) (by omega)
          replace hB := sm.below w.heap.size w (by omega) (hB.trans (bm.mono (by omega)))
          replace hS : O + 1 ≤ wd.heap.size := by have := sm.size; have := bm.size; omega
          simp only [Act.put]
          clear sm bm hY
          have hY := hY9
          clear hY9
          go_upto_region 8 with fail
          go_step
          refine wpList_load_box rfl 27 _ rfl hY (by simp [go_sem]) Try.underlying27 rfl (by rw [gArr_size]; kernel_rfl) ?_
          refine wpList_store_box (cells := gArr (L5.zero.sub y2).at) rfl 27 (.tmp 2) (.tmp 29) rfl hR (by simp [go_sem]) (by simp [go_sem, Act.put]) (by rw [gArr_size]; rfl) (by rw [gArr_size]; kernel_rfl) (gArr_one _) ?_
          intro wz hR9 st9
          have hB9 := st9.below w.heap.size w (by omega) hB
          refine wpList_value rfl (.bool true) (by simp [go_sem]) ?_
          simp only [Act.put, List.setIfInBounds_toArray, List.set_cons_zero, List.set_cons_succ]
          have HEL : Hid (El (L5.zero.sub y2) (rtN u)) := Lib.hid (by unfold rtN; rw [HOK.out, ← HO.out, cond_true, cond_true]; exact HZ2.out)
          clear st9 hX hR hY hB hS
          obtain ⟨G, hG⟩ : ∃ G, G = gArr (L5.zero.sub y2).at := ⟨_, rfl⟩
          rw [← hG] at hR9
          have HGS := Lib.hid (show G.size = 5 by rw [hG]; exact gArr_size _)
          have HG := Lib.hid hG
          clear hG
          go_wp2_with fail
          exact bodyPost_ret (v := .tuple #[.agg G, .bool true]) (box_result2 (p := 2) (q := 3) rfl _ _ (by rfl) hR9 Try.underlying27 rfl (by rw [HGS.out]; kernel_rfl)) rfl ⟨(L5.zero.sub y2), by rw [HG.out, HOK.out], HEL.out, hB9⟩
end Go.Proofs.Ytpkoniebbkkmjaa
namespace Go.Proofs.Ytpkoniebbkkmjaa
open Go.RowKit

theorem p_pos : 0 < P25 := by unfold P25; omega
theorem p_lt {n : Nat} (h : n < P25) : n < 115792089237316195423570985008687907853269984665640564039457584007913129639936 := by unfold P25 at h; omega
theorem dig_nought : (Array.replicate 16 (Value.int .u64 0)) = fArr (dig 0) := by
  rw [← fArr_zero]
  refine congrArg fArr ?_
  funext j
  simp [dig]

attribute [local irreducible] pw rt0 rt1

set_option maxRecDepth 100000 in
set_option maxHeartbeats 2000000 in
theorem refRoot_any (u : Nat) (w : World) (hu : u < P25) : Calls Try.prog 63 #[.agg (fArr (dig u))] w fun e w' => e = .returned (.tuple #[.agg (fArr (dig (rtN u))), .bool (rtOk u)]) ∧ Below w.heap.size w w' := by
  have HX := Lib.hid hu
  obtain ⟨q0, hq0⟩ : ∃ q0, q0 = pw u (2 ^ 252 - 3) := ⟨_, rfl⟩
  have hq1 : q0 < P25 := by rw [hq0]; exact pw_lt _ _
  obtain ⟨n0, hn0⟩ : ∃ n0, n0 = q0 * u % P25 := ⟨_, rfl⟩
  have hn1 : n0 = rt0 u := by
    rw [hn0, hq0, pw_more, rt0_def]
  have HP : Hid (∀ w : World, Calls Try.prog 66 #[.agg (fArr (dig u)), .int .u64 5, .int .i64 3] w fun e w' => e = .returned (.agg (fArr (dig q0))) ∧ Below w.heap.size w w') := by
    refine Lib.hid fun w => ?_
    have := refPower_any u 5 3 w hu (by omega) (by omega)
    rwa [show (P25 - 5) / 2 ^ 3 = 2 ^ 252 - 3 by unfold P25; simp only [Nat.reducePow], ← hq0] at this
  have HM0 : Hid (∀ w : World, Calls Try.prog 48 #[.agg (fArr (dig q0)), .agg (fArr (dig u))] w fun e w' => e = .returned (.agg (fArr (dig n0))) ∧ Below w.heap.size w w') := by
    refine Lib.hid fun w => ?_
    have := refMul_any q0 u w (p_lt hq1) (p_lt hu)
    rwa [← hn0] at this
  have HL0 := Lib.hid (show n0 < P25 by rw [hn0]; exact Nat.mod_lt _ p_pos)
  obtain ⟨ns, hns⟩ : ∃ ns, ns = pw 2 (2 ^ 253 - 5) := ⟨_, rfl⟩
  have hns1 : ns < P25 := by rw [hns]; exact pw_lt _ _
  have HP2 : Hid (∀ w : World, Calls Try.prog 66 #[.agg (fArr (dig 2)), .int .u64 1, .int .i64 2] w fun e w' => e = .returned (.agg (fArr (dig ns))) ∧ Below w.heap.size w w') := by
    refine Lib.hid fun w => ?_
    have := refPower_any 2 1 2 w (by unfold P25; omega) (by omega) (by omega)
    rwa [show (P25 - 1) / 2 ^ 2 = 2 ^ 253 - 5 by unfold P25; simp only [Nat.reducePow], ← hns] at this
  have HO2 := Lib.hid (fun w : World => refOf_any 2 w (by decide))
  obtain ⟨n1, hn2⟩ : ∃ n1, n1 = n0 * ns % P25 := ⟨_, rfl⟩
  have HM1 : Hid (∀ w : World, Calls Try.prog 48 #[.agg (fArr (dig n0)), .agg (fArr (dig ns))] w fun e w' => e = .returned (.agg (fArr (dig n1))) ∧ Below w.heap.size w w') := by
    refine Lib.hid fun w => ?_
    have := refMul_any n0 ns w (p_lt HL0.out) (p_lt hns1)
    rwa [← hn2] at this
  have HL1 := Lib.hid (show n1 < P25 by rw [hn2]; exact Nat.mod_lt _ p_pos)
  have HN0 := Lib.hid hn1
  have HN1 := Lib.hid hn2
  have HNS := Lib.hid hns
  clear hn0 hn1 hn2 hns hns1 hq0 hq1 hu
  go_enter Try.func63, Try.ntmps63
  go_upto_region 1 with fail
  have g0 : Box ((w.alloc (.cells (fArr (dig u)) 34)).alloc (.cells (Array.replicate 16 (Value.int .u64 0)) 34)) w.heap.size 34 (fArr (dig u)) := (Box.new _ _ _).alloc _
  have g1 : Box ((w.alloc (.cells (fArr (dig u)) 34)).alloc (.cells (Array.replicate 16 (Value.int .u64 0)) 34)) (w.heap.size + 1) 34 (Array.replicate 16 (Value.int .u64 0)) := by
    have := Box.new (w.alloc (.cells (fArr (dig u)) 34)) 34 (Array.replicate 16 (Value.int .u64 0))
    simp only [World.size_alloc] at this
    exact this
  have g3 : Below w.heap.size w ((w.alloc (.cells (fArr (dig u)) 34)).alloc (.cells (Array.replicate 16 (Value.int .u64 0)) 34)) := ((Below.refl w.heap.size w).alloc (Nat.le_refl _) _).alloc (by simp) _
  have g4 : w.heap.size + 2 ≤ ((w.alloc (.cells (fArr (dig u)) 34)).alloc (.cells (Array.replicate 16 (Value.int .u64 0)) 34)).heap.size := by simp
  change Code.wp _ _ _ _ ((w.alloc (.cells (fArr (dig u)) 34)).alloc (.cells (Array.replicate 16 (Value.int .u64 0)) 34))
  generalize ((w.alloc (.cells (fArr (dig u)) 34)).alloc (.cells (Array.replicate 16 (Value.int .u64 0)) 34)) = W at *
  go_cut [4] from 5 (fun s4 w' => ∃ O, s4 = Value.pointer (some ⟨O, 0, none⟩) ∧ w.heap.size + 2 ≤ O ∧ Box w' O 34 (fArr (dig n0)) ∧ Box w' w.heap.size 34 (fArr (dig u)) ∧ Box w' (w.heap.size + 1) 34 (Array.replicate 16 (Value.int .u64 0)) ∧ Below w.heap.size w w' ∧ O + 1 ≤ w'.heap.size)
  case first =>
    have hq0 : Below (w.heap.size + 2) W W.drew := (Below.refl _ _).drew
    refine wp_region_held_drew (S := fun w' => Below (w.heap.size + 2) W w') rfl hq0 (fun _ => ?_)
    refine wpH_take 0 rfl (by kernel_rfl) (by kernel_rfl) (by kernel_rfl) rfl (fun _ _ _ _ h => h) (.agg (fArr (dig u))) (fun w' h => run_load_box rfl (g0.below h (by omega)) (by simp [go_sem]) Try.underlying34 rfl (by rw [fArr_size]; kernel_rfl)) hq0 ?_
    refine wpH_take 2 rfl (by kernel_rfl) (by kernel_rfl) (by kernel_rfl) rfl (fun _ _ _ _ h => h) (.agg (fArr (dig u))) (fun w' h => run_load_box rfl (g0.below h (by omega)) (by simp [go_sem, Act.put]) Try.underlying34 rfl (by rw [fArr_size]; kernel_rfl)) hq0 ?_
    refine wpH_enter_or_run 1 4 rfl rfl (by kernel_rfl) rfl rfl 66 #[.agg (fArr (dig u)), .int .u64 5, .int .i64 3] (by simp [go_sem, Act.put]) _ (HP.out _) _ _ (run_alloc_box rfl (Array.replicate 16 (Value.int .u64 0)) (by simp [go_sem]; rfl)) (hq0.alloc (by have hdz : W.drew.heap.size = W.heap.size := rfl; omega) _) ?_ ?_
    · rintro e v4 ⟨rfl, b4⟩
      have k4 := hq0.trans (b4.mono (by have hdz : W.drew.heap.size = W.heap.size := rfl; have := hq0.size; simp at this ⊢; omega))
      refine ⟨_, rfl, k4, ?_⟩
      refine wpH_enter_or_run 3 4 rfl rfl (by kernel_rfl) rfl rfl 48 #[.agg (fArr (dig q0)), .agg (fArr (dig u))] (by simp [go_sem, Act.put]) _ (HM0.out _) _ _ (run_alloc_box rfl (Array.replicate 16 (Value.int .u64 0)) (by simp [go_sem]; rfl)) (k4.alloc (by have hdz : W.drew.heap.size = W.heap.size := rfl; have := k4.size; omega) _) ?_ ?_
      · rintro e v5 ⟨rfl, b5⟩
        have k5 := k4.trans (b5.mono (by have hdz : W.drew.heap.size = W.heap.size := rfl; have := k4.size; simp at this ⊢; omega))
        refine ⟨_, rfl, k5, ?_⟩
        have k6 := k5.alloc (o := .cells (Array.replicate 16 (Value.int .u64 0)) 34) (by have hdz : W.drew.heap.size = W.heap.size := rfl; have := k5.size; omega)
        refine wpH_run 4 rfl (by kernel_rfl) rfl _ _ (run_alloc_box rfl (Array.replicate 16 (Value.int .u64 0)) (by simp [go_sem]; rfl)) k6 ?_
        refine wpH_store_box (cells := (fArr (dig n0))) 5 rfl (by kernel_rfl) rfl 34 (.tmp 4) (.tmp 8) rfl (Box.new _ _ _) (by simp [go_sem, Act.put]) (by simp [go_sem, Act.put]) (by rw [fArr_size]; rfl) (by rw [fArr_size]; kernel_rfl) (fArr_one _) ?_
        intro w9 hY9 s9
        have f1 : w.heap.size + 2 ≤ v5.heap.size := (by have hdz : W.drew.heap.size = W.heap.size := rfl; have := k5.size; omega)
        have k9 := s9.below _ _ f1 k6
        refine ⟨k9, ?_⟩
        refine wpAnyH_done (by kernel_rfl) ?_ _
        have fin : Box w9 (v5.heap.size) 34 (fArr (dig n0)) ∧ Box w9 w.heap.size 34 (fArr (dig u)) ∧ Box w9 (w.heap.size + 1) 34 (Array.replicate 16 (Value.int .u64 0)) ∧ Below w.heap.size w w9 :=
          ⟨hY9, g0.below k9 (by omega), g1.below k9 (by omega), g3.trans (k9.mono (by omega))⟩
        have f2 := hY9.lt
        simp only [Act.put, List.setIfInBounds_toArray, List.set_cons_zero, List.set_cons_succ]
        generalize v5.heap.size = OO at *
        clear hY9 s9 k4 k5 k6 b4 b5 hq0 k9 g0 g1 g3
        go_wp2_with fail
        go_meet
        case rel => exact ⟨OO, rfl, f1, fin.1, fin.2.1, fin.2.2.1, fin.2.2.2, f2⟩
      · have k5 := k4.alloc (o := .cells (Array.replicate 16 (Value.int .u64 0)) 34) (by have hdz : W.drew.heap.size = W.heap.size := rfl; have := k4.size; omega)
        refine wpH_enter 3 rfl (by kernel_rfl) rfl 48 #[.agg (fArr (dig q0)), .agg (fArr (dig u))] (by simp [go_sem, Act.put]) _ (HM0.out _) ?_
        rintro e v6 ⟨rfl, b6⟩
        have k6 := k5.trans (b6.mono (by have hdz : W.drew.heap.size = W.heap.size := rfl; have := k5.size; simp at this ⊢; omega))
        refine ⟨_, rfl, k6, ?_⟩
        refine wpH_store_box (cells := (fArr (dig n0))) 5 rfl (by kernel_rfl) rfl 34 (.tmp 4) (.tmp 8) rfl ((Box.new _ _ _).after b6) (by simp [go_sem, Act.put]) (by simp [go_sem, Act.put]) (by rw [fArr_size]; rfl) (by rw [fArr_size]; kernel_rfl) (fArr_one _) ?_
        intro w9 hY9 s9
        have f1 : w.heap.size + 2 ≤ v4.heap.size := (by have hdz : W.drew.heap.size = W.heap.size := rfl; have := k4.size; omega)
        have k9 := s9.below _ _ f1 k6
        refine ⟨k9, ?_⟩
        refine wpAnyH_done (by kernel_rfl) ?_ _
        have fin : Box w9 (v4.heap.size) 34 (fArr (dig n0)) ∧ Box w9 w.heap.size 34 (fArr (dig u)) ∧ Box w9 (w.heap.size + 1) 34 (Array.replicate 16 (Value.int .u64 0)) ∧ Below w.heap.size w w9 :=
          ⟨hY9, g0.below k9 (by omega), g1.below k9 (by omega), g3.trans (k9.mono (by omega))⟩
        have f2 := hY9.lt
        simp only [Act.put, List.setIfInBounds_toArray, List.set_cons_zero, List.set_cons_succ]
        generalize v4.heap.size = OO at *
        clear hY9 s9 k4 k5 k6 b4 b6 hq0 k9 g0 g1 g3
        go_wp2_with fail
        go_meet
        case rel => exact ⟨OO, rfl, f1, fin.1, fin.2.1, fin.2.2.1, fin.2.2.2, f2⟩
    · have hdz : W.drew.heap.size = W.heap.size := rfl
      have k4 := hq0.alloc (o := .cells (Array.replicate 16 (Value.int .u64 0)) 34) (by omega)
      refine wpH_enter 1 rfl (by kernel_rfl) rfl 66 #[.agg (fArr (dig u)), .int .u64 5, .int .i64 3] (by simp [go_sem, Act.put]) _ (HP.out _) ?_
      rintro e v5 ⟨rfl, b5⟩
      have k5 := k4.trans (b5.mono (by have hdz : W.drew.heap.size = W.heap.size := rfl; have := k4.size; simp at this ⊢; omega))
      refine ⟨_, rfl, k5, ?_⟩
      refine wpH_enter 3 rfl (by kernel_rfl) rfl 48 #[.agg (fArr (dig q0)), .agg (fArr (dig u))] (by simp [go_sem, Act.put]) _ (HM0.out _) ?_
      rintro e v6 ⟨rfl, b6⟩
      have k6 := k5.trans (b6.mono (by have hdz : W.drew.heap.size = W.heap.size := rfl; have := k5.size; simp at this ⊢; omega))
      refine ⟨_, rfl, k6, ?_⟩
      refine wpH_store_box (cells := (fArr (dig n0))) 5 rfl (by kernel_rfl) rfl 34 (.tmp 4) (.tmp 8) rfl (((Box.new _ _ _).after b5).after b6) (by simp [go_sem, Act.put]) (by simp [go_sem, Act.put]) (by rw [fArr_size]; rfl) (by rw [fArr_size]; kernel_rfl) (fArr_one _) ?_
      intro w9 hY9 s9
      have f1 : w.heap.size + 2 ≤ W.drew.heap.size := g4
      have k9 := s9.below _ _ f1 k6
      refine ⟨k9, ?_⟩
      refine wpAnyH_done (by kernel_rfl) ?_ _
      have fin : Box w9 (W.drew.heap.size) 34 (fArr (dig n0)) ∧ Box w9 w.heap.size 34 (fArr (dig u)) ∧ Box w9 (w.heap.size + 1) 34 (Array.replicate 16 (Value.int .u64 0)) ∧ Below w.heap.size w w9 :=
        ⟨hY9, g0.below k9 (by omega), g1.below k9 (by omega), g3.trans (k9.mono (by omega))⟩
      have f2 := hY9.lt
      simp only [Act.put, List.setIfInBounds_toArray, List.set_cons_zero, List.set_cons_succ]
      generalize W.drew.heap.size = OO at *
      clear hY9 s9 k4 k5 k6 b5 b6 hq0 k9 g0 g1 g3
      go_wp2_with fail
      go_meet
      case rel => exact ⟨OO, rfl, f1, fin.1, fin.2.1, fin.2.2.1, fin.2.2.2, f2⟩
  case rest =>
    obtain ⟨O, rfl, hO, hY, hX, hR, hB, hS⟩ := hcut
    clear g0 g1 g3 g4
    have HYY := Lib.hid (fun w : World => refMul_any n0 n0 w (p_lt HL0.out) (p_lt HL0.out))
    have HSM := Lib.hid (fun w : World => eql_fArr (n0 * n0 % P25) u (p_lt (Nat.mod_lt _ p_pos)) (p_lt HX.out) w)
    obtain ⟨b, hb⟩ : ∃ b, b = (n0 * n0 % P25 == u) := ⟨_, rfl⟩
    rw [← hb] at HSM
    have HB := Lib.hid hb
    clear hb
    obtain ⟨m1, hm1⟩ : ∃ m1, m1 = n0 * n0 % P25 := ⟨_, rfl⟩
    rw [← hm1] at HYY HSM
    clear hm1
    go_upto_region 2 with fail
    refine wp_region_made wc.heap.size wc rfl (by kernel_rfl) (Below.refl _ _) ?_
    refine wpQ_load_box rfl 34 _ rfl hY (by rfl) hY.lt Try.underlying34 rfl (by rw [fArr_size]; kernel_rfl) ?_
    simp only [Act.put, List.setIfInBounds_toArray, List.set_cons_zero, List.set_cons_succ]
    refine wpQ_load_box rfl 34 _ rfl hY (by rfl) hY.lt Try.underlying34 rfl (by rw [fArr_size]; kernel_rfl) ?_
    simp only [Act.put, List.setIfInBounds_toArray, List.set_cons_zero, List.set_cons_succ]
    refine wpQ_call rfl 48 #[.agg (fArr (dig n0)), .agg (fArr (dig n0))] (fun w => by simp [go_sem]) _ (Nat.le_refl _) HYY.out ?_
    simp only [Act.put, List.setIfInBounds_toArray, List.set_cons_zero, List.set_cons_succ]
    refine wpQ_load_box rfl 34 _ rfl hX (by rfl) hX.lt Try.underlying34 rfl (by rw [fArr_size]; kernel_rfl) ?_
    simp only [Act.put, List.setIfInBounds_toArray, List.set_cons_zero, List.set_cons_succ]
    refine wpQ_run rfl (.bool (!b)) (fun w hw => by simp [go_sem, HSM.out]) ?_
    simp only [Act.put, List.setIfInBounds_toArray, List.set_cons_zero, List.set_cons_succ]
    intro w3 bm
    replace hX := hX.after bm
    replace hR := hR.after bm
    replace hY := hY.after bm
    replace hB := hB.trans (bm.mono (by omega))
    replace hS : O + 1 ≤ w3.heap.size := by have := bm.size; omega
    clear bm
    clear HYY HSM
    cases b with
    | true =>
      have HT : Hid (n0 = rt1 u) := Lib.hid (by unfold rt1; rw [← HN0.out, ← HB.out, cond_true])
      have HTL := HL0
      have HYY := Lib.hid (fun w : World => refMul_any n0 n0 w (p_lt HTL.out) (p_lt HTL.out))
      have HSM := Lib.hid (fun w : World => eql_fArr (n0 * n0 % P25) u (p_lt (Nat.mod_lt _ p_pos)) (p_lt HX.out) w)
      obtain ⟨b2, hb2⟩ : ∃ b2, b2 = (n0 * n0 % P25 == u) := ⟨_, rfl⟩
      rw [← hb2] at HSM
      have HB2 : Hid (b2 = rtOk u) := Lib.hid (by rw [hb2, HT.out]; rfl)
      clear hb2
      generalize (n0 * n0 % P25) = m2 at *
      go_upto_region 4 with fail
      refine wp_region_made w3.heap.size w3 rfl (by kernel_rfl) (Below.refl _ _) ?_
      refine wpQ_load_box rfl 34 _ rfl hY (by rfl) hY.lt Try.underlying34 rfl (by rw [fArr_size]; kernel_rfl) ?_
      simp only [Act.put, List.setIfInBounds_toArray, List.set_cons_zero, List.set_cons_succ]
      refine wpQ_load_box rfl 34 _ rfl hY (by rfl) hY.lt Try.underlying34 rfl (by rw [fArr_size]; kernel_rfl) ?_
      simp only [Act.put, List.setIfInBounds_toArray, List.set_cons_zero, List.set_cons_succ]
      refine wpQ_call rfl 48 #[.agg (fArr (dig n0)), .agg (fArr (dig n0))] (fun w => by simp [go_sem]) _ (Nat.le_refl _) HYY.out ?_
      simp only [Act.put, List.setIfInBounds_toArray, List.set_cons_zero, List.set_cons_succ]
      refine wpQ_load_box rfl 34 _ rfl hX (by rfl) hX.lt Try.underlying34 rfl (by rw [fArr_size]; kernel_rfl) ?_
      simp only [Act.put, List.setIfInBounds_toArray, List.set_cons_zero, List.set_cons_succ]
      refine wpQ_run rfl (.bool (!b2)) (fun w hw => by simp [go_sem, HSM.out]) ?_
      simp only [Act.put, List.setIfInBounds_toArray, List.set_cons_zero, List.set_cons_succ]
      intro w8 bm
      replace hX := hX.after bm
      replace hR := hR.after bm
      replace hY := hY.after bm
      replace hB := hB.trans (bm.mono (by omega))
      replace hS : O + 1 ≤ w8.heap.size := by have := bm.size; omega
      clear bm
      clear HYY HSM
      cases b2 with
      | false =>
        go_upto_region 5 with fail
        go_step
        refine wpList_value rfl (.agg (Array.replicate 16 (Value.int .u64 0))) (by simp [go_sem]; rfl) ?_
        refine wpList_store_box (cells := (Array.replicate 16 (Value.int .u64 0))) rfl 34 (.tmp 2) (.tmp 23) rfl hR (by simp [go_sem, Act.put]) (by simp [go_sem, Act.put]) rfl (by kernel_rfl) (by rw [← fArr_zero]; exact fArr_one _) ?_
        intro wz hR9 st9
        have hB9 := st9.below w.heap.size w (by omega) hB
        refine wpList_value rfl (.bool false) (by simp [go_sem]) ?_
        simp only [Act.put, List.setIfInBounds_toArray, List.set_cons_zero, List.set_cons_succ]
        clear st9 hX hR hY hB hS
        obtain ⟨G, hG⟩ : ∃ G, G = (Array.replicate 16 (Value.int .u64 0)) := ⟨_, rfl⟩
        rw [← hG] at hR9
        have HGS := Lib.hid (show G.size = 16 by rw [hG]; rfl)
        have HG := Lib.hid hG
        clear hG
        go_wp2_with fail
        exact bodyPost_ret (v := .tuple #[.agg G, .bool false]) (box_result2 (p := 2) (q := 3) rfl _ _ (by rfl) hR9 Try.underlying34 rfl (by rw [HGS.out]; kernel_rfl)) rfl ⟨by rw [HG.out, ← HB2.out, show rtN u = 0 by unfold rtN; rw [← HB2.out, cond_false], dig_nought], hB9⟩
      | true =>
        have HOK : Hid (rtOk u = true) := Lib.hid HB2.out.symm
        have x0 := hY.cell 0 (fArr_get _ 0 (by omega))
        obtain ⟨d, hd⟩ : ∃ d, d = dig n0 0 := ⟨_, rfl⟩
        have hdl : d < 65536 := by rw [hd]; exact dig_lt _ _
        have hdm : d % 2 = n0 % 2 := by rw [hd]; unfold dig; omega
        rw [← hd] at x0
        have e1 : ((d : Int)).tmod 2 = ((d % 2 : Nat) : Int) := by rw [Int.tmod_eq_emod_of_nonneg (by omega)]; omega
        obtain ⟨o, ho⟩ : ∃ o, o = d % 2 := ⟨_, rfl⟩
        have ho2 : o < 2 := by omega
        rw [← ho] at e1
        have HO : Hid (o = n0 % 2) := Lib.hid (by omega)
        clear ho hdm hd
        by_cases hodd : o = 1
        · have ob : ((o : Int) == 1) = true := by simp [hodd]
          have HN := Lib.hid (show n0 % 2 = 1 by rw [← HO.out]; exact hodd)
          clear hodd
          have HNEG : Hid (∀ w : World, Calls Try.prog 39 #[.agg (fArr (dig n0))] w fun e w' => e = .returned (.agg (fArr (dig (P25 - n0)))) ∧ Below w.heap.size w w') := by
            refine Lib.hid fun w => ?_
            have := refNeg_any n0 w (Nat.le_of_lt HTL.out)
            rw [Nat.mod_eq_of_lt (by have := HTL.out; have := HN.out; omega)] at this
            exact this
          have HNV : Hid (P25 - n0 = rtN u) := Lib.hid (by unfold rtN; rw [HOK.out, ← HT.out, HN.out]; rfl)
          obtain ⟨n9, hn9⟩ : ∃ n9, n9 = P25 - n0 := ⟨_, rfl⟩
          rw [← hn9] at HNEG HNV
          clear hn9
          go_upto_region 7 with fail
          go_step
          refine wpList_made 2 w8.heap.size w8 (Below.refl _ _) ?_
          simp only [List.take_succ_cons, List.take_zero, List.drop_succ_cons, List.drop_zero]
          refine wpQ_load_box rfl 34 _ rfl hY (by rfl) hY.lt Try.underlying34 rfl (by rw [fArr_size]; kernel_rfl) ?_
          simp only [Act.put, List.setIfInBounds_toArray, List.set_cons_zero, List.set_cons_succ]
          refine wpQ_call rfl 39 #[.agg (fArr (dig n0))] (fun w => by simp [go_sem]) _ (Nat.le_refl _) HNEG.out ?_
          simp only [Act.put, List.setIfInBounds_toArray, List.set_cons_zero, List.set_cons_succ]
          intro wc8 bm
          refine wpList_store_box (cells := (fArr (dig n9))) rfl 34 (.tmp 4) (.tmp 29) rfl (hY.after bm) (by simp [go_sem]) (by simp [go_sem]) (by rw [fArr_size, fArr_size]) (by rw [fArr_size]; kernel_rfl) (fArr_one _) ?_
          intro wd hY9 sm
          replace hX := sm.box (hX.after bm) (by omega)
          replace hR := sm.box (hR.after bm) (by omega)
          replace hB := sm.below w.heap.size w (by omega) (hB.trans (bm.mono (by omega)))
          replace hS : O + 1 ≤ wd.heap.size := by have := sm.size; have := bm.size; omega
          simp only [Act.put]
          clear sm bm hY x0
          have hY := hY9
          clear hY9
          go_upto_region 8 with fail
          go_step
          refine wpList_load_box rfl 34 _ rfl hY (by simp [go_sem]) Try.underlying34 rfl (by rw [fArr_size]; kernel_rfl) ?_
          refine wpList_store_box (cells := (fArr (dig n9))) rfl 34 (.tmp 2) (.tmp 30) rfl hR (by simp [go_sem]) (by simp [go_sem, Act.put]) (by rw [fArr_size]; rfl) (by rw [fArr_size]; kernel_rfl) (fArr_one _) ?_
          intro wz hR9 st9
          have hB9 := st9.below w.heap.size w (by omega) hB
          refine wpList_value rfl (.bool true) (by simp [go_sem]) ?_
          simp only [Act.put, List.setIfInBounds_toArray, List.set_cons_zero, List.set_cons_succ]
          have HZ : Hid (rtN u = n9) := Lib.hid (HNV.out.symm)
          clear st9 hX hR hY hB hS
          obtain ⟨G, hG⟩ : ∃ G, G = (fArr (dig n9)) := ⟨_, rfl⟩
          rw [← hG] at hR9
          have HGS := Lib.hid (show G.size = 16 by rw [hG]; exact fArr_size _)
          have HG := Lib.hid hG
          clear hG
          go_wp2_with fail
          exact bodyPost_ret (v := .tuple #[.agg G, .bool true]) (box_result2 (p := 2) (q := 3) rfl _ _ (by rfl) hR9 Try.underlying34 rfl (by rw [HGS.out]; kernel_rfl)) rfl ⟨by rw [HG.out, HOK.out, HZ.out], hB9⟩
        · have ob : ((o : Int) == 1) = false := by simp; omega
          have HN := Lib.hid (show n0 % 2 = 0 by rw [← HO.out]; omega)
          clear hodd
          go_upto_region 8 with fail
          go_step
          refine wpList_load_box rfl 34 _ rfl hY (by simp [go_sem]) Try.underlying34 rfl (by rw [fArr_size]; kernel_rfl) ?_
          refine wpList_store_box (cells := (fArr (dig n0))) rfl 34 (.tmp 2) (.tmp 30) rfl hR (by simp [go_sem]) (by simp [go_sem, Act.put]) (by rw [fArr_size]; rfl) (by rw [fArr_size]; kernel_rfl) (fArr_one _) ?_
          intro wz hR9 st9
          have hB9 := st9.below w.heap.size w (by omega) hB
          refine wpList_value rfl (.bool true) (by simp [go_sem]) ?_
          simp only [Act.put, List.setIfInBounds_toArray, List.set_cons_zero, List.set_cons_succ]
          have HZ : Hid (rtN u = n0) := Lib.hid (by unfold rtN; rw [HOK.out, ← HT.out, HN.out]; rfl)
          clear st9 hX hR hY hB hS
          obtain ⟨G, hG⟩ : ∃ G, G = (fArr (dig n0)) := ⟨_, rfl⟩
          rw [← hG] at hR9
          have HGS := Lib.hid (show G.size = 16 by rw [hG]; exact fArr_size _)
          have HG := Lib.hid hG
          clear hG
          go_wp2_with fail
          exact bodyPost_ret (v := .tuple #[.agg G, .bool true]) (box_result2 (p := 2) (q := 3) rfl _ _ (by rfl) hR9 Try.underlying34 rfl (by rw [HGS.out]; kernel_rfl)) rfl ⟨by rw [HG.out, HOK.out, HZ.out], hB9⟩
    | false =>
      go_upto_region 3 with fail
      go_cut [4] from 14 (fun s4 w' => s4 = Value.pointer (some ⟨O, 0, none⟩) ∧ Box w' O 34 (fArr (dig n1)) ∧ Box w' w.heap.size 34 (fArr (dig u)) ∧ Box w' (w.heap.size + 1) 34 (Array.replicate 16 (Value.int .u64 0)) ∧ Below w.heap.size w w' ∧ O + 1 ≤ w'.heap.size)
      case first =>
        have hq0 : Below (w.heap.size + 2) w3 w3.drew := (Below.refl _ _).drew
        refine wp_region_held_drew (S := fun w' => Below (w.heap.size + 2) w3 w') rfl hq0 (fun _ => ?_)
        refine wpH_run_or_enter 0 1 rfl rfl (by kernel_rfl) rfl rfl (.agg (fArr (dig n0))) (run_load_box rfl hY.drew (by simp [go_sem]) Try.underlying34 rfl (by rw [fArr_size]; kernel_rfl)) hq0 40 #[.int .u64 2] (by simp [go_sem]) _ (HO2.out _) ?_ ?_
        · refine wpH_enter 1 rfl (by kernel_rfl) rfl 40 #[.int .u64 2] (by simp [go_sem, Act.put]) _ (HO2.out _) ?_
          rintro e w4 ⟨rfl, b4⟩
          have k4 := hq0.trans (b4.mono (by simp; omega))
          have y4 := hY.drew.after b4
          refine ⟨_, rfl, k4, ?_⟩
          refine wpH_enter 2 rfl (by kernel_rfl) rfl 66 #[.agg (fArr (dig 2)), .int .u64 1, .int .i64 2] (by simp [go_sem, Act.put]) _ (HP2.out _) ?_
          rintro e w5 ⟨rfl, b5⟩
          have k5 := k4.trans (b5.mono (by have hdz : W.drew.heap.size = W.heap.size := rfl; have := k4.size; omega))
          have y5 := y4.after b5
          refine ⟨_, rfl, k5, ?_⟩
          refine wpH_enter 3 rfl (by kernel_rfl) rfl 48 #[.agg (fArr (dig n0)), .agg (fArr (dig ns))] (by simp [go_sem, Act.put]) _ (HM1.out _) ?_
          rintro e w6 ⟨rfl, b6⟩
          have k6 := k5.trans (b6.mono (by have := k5.size; simp at this ⊢; omega))
          refine ⟨_, rfl, k6, ?_⟩
          refine wpH_store_box (cells := (fArr (dig n1))) 4 rfl (by kernel_rfl) rfl 34 (.tmp 4) (.tmp 17) rfl (y5.after b6) (by simp [go_sem, Act.put]) (by simp [go_sem, Act.put]) (by rw [fArr_size, fArr_size]) (by rw [fArr_size]; kernel_rfl) (fArr_one _) ?_
          intro w7 hY7 s7
          have k7 := s7.below _ _ (by omega) k6
          refine ⟨k7, ?_⟩
          refine wpAnyH_done (by kernel_rfl) ?_ _
          have fin : Value.pointer (some ⟨O, 0, none⟩) = .pointer (some ⟨O, 0, none⟩) ∧ Box w7 O 34 (fArr (dig n1)) ∧ Box w7 w.heap.size 34 (fArr (dig u)) ∧ Box w7 (w.heap.size + 1) 34 (Array.replicate 16 (Value.int .u64 0)) ∧ Below w.heap.size w w7 ∧ O + 1 ≤ w7.heap.size :=
            ⟨rfl, hY7, hX.below k7 (by omega), hR.below k7 (by omega), hB.trans (k7.mono (by omega)), by have := k7.size; omega⟩
          simp only [Act.put, List.setIfInBounds_toArray, List.set_cons_zero, List.set_cons_succ]
          clear s7 b6 k6 k7 hX hR hY hB hS
          go_wp2_with fail
          go_meet
          case rel => exact ⟨rfl, fin.2⟩
        · rintro e w4 ⟨rfl, b4⟩
          have k4 := hq0.trans (b4.mono (by simp; omega))
          have y4 := hY.drew.after b4
          refine ⟨_, rfl, k4, ?_⟩
          refine wpH_run_or_enter 0 2 rfl rfl (by kernel_rfl) rfl rfl (.agg (fArr (dig n0))) (run_load_box rfl y4 (by simp [go_sem, Act.put]) Try.underlying34 rfl (by rw [fArr_size]; kernel_rfl)) k4 66 #[.agg (fArr (dig 2)), .int .u64 1, .int .i64 2] (by simp [go_sem, Act.put]) _ (HP2.out _) ?_ ?_
          · refine wpH_enter 2 rfl (by kernel_rfl) rfl 66 #[.agg (fArr (dig 2)), .int .u64 1, .int .i64 2] (by simp [go_sem, Act.put]) _ (HP2.out _) ?_
            rintro e w5 ⟨rfl, b5⟩
            have k5 := k4.trans (b5.mono (by have hdz : W.drew.heap.size = W.heap.size := rfl; have := k4.size; omega))
            have y5 := y4.after b5
            refine ⟨_, rfl, k5, ?_⟩
            refine wpH_enter 3 rfl (by kernel_rfl) rfl 48 #[.agg (fArr (dig n0)), .agg (fArr (dig ns))] (by simp [go_sem, Act.put]) _ (HM1.out _) ?_
            rintro e w6 ⟨rfl, b6⟩
            have k6 := k5.trans (b6.mono (by have := k5.size; simp at this ⊢; omega))
            refine ⟨_, rfl, k6, ?_⟩
            refine wpH_store_box (cells := (fArr (dig n1))) 4 rfl (by kernel_rfl) rfl 34 (.tmp 4) (.tmp 17) rfl (y5.after b6) (by simp [go_sem, Act.put]) (by simp [go_sem, Act.put]) (by rw [fArr_size, fArr_size]) (by rw [fArr_size]; kernel_rfl) (fArr_one _) ?_
            intro w7 hY7 s7
            have k7 := s7.below _ _ (by omega) k6
            refine ⟨k7, ?_⟩
            refine wpAnyH_done (by kernel_rfl) ?_ _
            have fin : Value.pointer (some ⟨O, 0, none⟩) = .pointer (some ⟨O, 0, none⟩) ∧ Box w7 O 34 (fArr (dig n1)) ∧ Box w7 w.heap.size 34 (fArr (dig u)) ∧ Box w7 (w.heap.size + 1) 34 (Array.replicate 16 (Value.int .u64 0)) ∧ Below w.heap.size w w7 ∧ O + 1 ≤ w7.heap.size :=
              ⟨rfl, hY7, hX.below k7 (by omega), hR.below k7 (by omega), hB.trans (k7.mono (by omega)), by have := k7.size; omega⟩
            simp only [Act.put, List.setIfInBounds_toArray, List.set_cons_zero, List.set_cons_succ]
            clear s7 b6 k6 k7 hX hR hY hB hS
            go_wp2_with fail
            go_meet
            case rel => exact ⟨rfl, fin.2⟩
          · rintro e w5 ⟨rfl, b5⟩
            have k5 := k4.trans (b5.mono (by have hdz : W.drew.heap.size = W.heap.size := rfl; have := k4.size; omega))
            have y5 := y4.after b5
            refine ⟨_, rfl, k5, ?_⟩
            refine wpH_run 0 rfl (by kernel_rfl) rfl (.agg (fArr (dig n0))) w5 (run_load_box rfl y5 (by simp [go_sem, Act.put]) Try.underlying34 rfl (by rw [fArr_size]; kernel_rfl)) k5 ?_
            refine wpH_enter 3 rfl (by kernel_rfl) rfl 48 #[.agg (fArr (dig n0)), .agg (fArr (dig ns))] (by simp [go_sem, Act.put]) _ (HM1.out _) ?_
            rintro e w6 ⟨rfl, b6⟩
            have k6 := k5.trans (b6.mono (by have := k5.size; simp at this ⊢; omega))
            refine ⟨_, rfl, k6, ?_⟩
            refine wpH_store_box (cells := (fArr (dig n1))) 4 rfl (by kernel_rfl) rfl 34 (.tmp 4) (.tmp 17) rfl (y5.after b6) (by simp [go_sem, Act.put]) (by simp [go_sem, Act.put]) (by rw [fArr_size, fArr_size]) (by rw [fArr_size]; kernel_rfl) (fArr_one _) ?_
            intro w7 hY7 s7
            have k7 := s7.below _ _ (by omega) k6
            refine ⟨k7, ?_⟩
            refine wpAnyH_done (by kernel_rfl) ?_ _
            have fin : Value.pointer (some ⟨O, 0, none⟩) = .pointer (some ⟨O, 0, none⟩) ∧ Box w7 O 34 (fArr (dig n1)) ∧ Box w7 w.heap.size 34 (fArr (dig u)) ∧ Box w7 (w.heap.size + 1) 34 (Array.replicate 16 (Value.int .u64 0)) ∧ Below w.heap.size w w7 ∧ O + 1 ≤ w7.heap.size :=
              ⟨rfl, hY7, hX.below k7 (by omega), hR.below k7 (by omega), hB.trans (k7.mono (by omega)), by have := k7.size; omega⟩
            simp only [Act.put, List.setIfInBounds_toArray, List.set_cons_zero, List.set_cons_succ]
            clear s7 b6 k6 k7 hX hR hY hB hS
            go_wp2_with fail
            go_meet
            case rel => exact ⟨rfl, fin.2⟩
      case rest =>
        obtain ⟨rfl, hY, hX, hR, hB, hS⟩ := hcut
        have HT : Hid (n1 = rt1 u) := Lib.hid (by unfold rt1; rw [← HN0.out, ← HB.out, cond_false, ← HNS.out]; exact HN1.out)
        have HTL := HL1
        have HYY := Lib.hid (fun w : World => refMul_any n1 n1 w (p_lt HTL.out) (p_lt HTL.out))
        have HSM := Lib.hid (fun w : World => eql_fArr (n1 * n1 % P25) u (p_lt (Nat.mod_lt _ p_pos)) (p_lt HX.out) w)
        obtain ⟨b2, hb2⟩ : ∃ b2, b2 = (n1 * n1 % P25 == u) := ⟨_, rfl⟩
        rw [← hb2] at HSM
        have HB2 : Hid (b2 = rtOk u) := Lib.hid (by rw [hb2, HT.out]; rfl)
        clear hb2
        generalize (n1 * n1 % P25) = m2 at *
        go_upto_region 4 with fail
        refine wp_region_made wc.heap.size wc rfl (by kernel_rfl) (Below.refl _ _) ?_
        refine wpQ_load_box rfl 34 _ rfl hY (by rfl) hY.lt Try.underlying34 rfl (by rw [fArr_size]; kernel_rfl) ?_
        simp only [Act.put, List.setIfInBounds_toArray, List.set_cons_zero, List.set_cons_succ]
        refine wpQ_load_box rfl 34 _ rfl hY (by rfl) hY.lt Try.underlying34 rfl (by rw [fArr_size]; kernel_rfl) ?_
        simp only [Act.put, List.setIfInBounds_toArray, List.set_cons_zero, List.set_cons_succ]
        refine wpQ_call rfl 48 #[.agg (fArr (dig n1)), .agg (fArr (dig n1))] (fun w => by simp [go_sem]) _ (Nat.le_refl _) HYY.out ?_
        simp only [Act.put, List.setIfInBounds_toArray, List.set_cons_zero, List.set_cons_succ]
        refine wpQ_load_box rfl 34 _ rfl hX (by rfl) hX.lt Try.underlying34 rfl (by rw [fArr_size]; kernel_rfl) ?_
        simp only [Act.put, List.setIfInBounds_toArray, List.set_cons_zero, List.set_cons_succ]
        refine wpQ_run rfl (.bool (!b2)) (fun w hw => by simp [go_sem, HSM.out]) ?_
        simp only [Act.put, List.setIfInBounds_toArray, List.set_cons_zero, List.set_cons_succ]
        intro w8 bm
        replace hX := hX.after bm
        replace hR := hR.after bm
        replace hY := hY.after bm
        replace hB := hB.trans (bm.mono (by omega))
        replace hS : O + 1 ≤ w8.heap.size := by have := bm.size; omega
        clear bm
        clear HYY HSM
        cases b2 with
        | false =>
          go_upto_region 5 with fail
          go_step
          refine wpList_value rfl (.agg (Array.replicate 16 (Value.int .u64 0))) (by simp [go_sem]; rfl) ?_
          refine wpList_store_box (cells := (Array.replicate 16 (Value.int .u64 0))) rfl 34 (.tmp 2) (.tmp 23) rfl hR (by simp [go_sem, Act.put]) (by simp [go_sem, Act.put]) rfl (by kernel_rfl) (by rw [← fArr_zero]; exact fArr_one _) ?_
          intro wz hR9 st9
          have hB9 := st9.below w.heap.size w (by omega) hB
          refine wpList_value rfl (.bool false) (by simp [go_sem]) ?_
          simp only [Act.put, List.setIfInBounds_toArray, List.set_cons_zero, List.set_cons_succ]
          clear st9 hX hR hY hB hS
          obtain ⟨G, hG⟩ : ∃ G, G = (Array.replicate 16 (Value.int .u64 0)) := ⟨_, rfl⟩
          rw [← hG] at hR9
          have HGS := Lib.hid (show G.size = 16 by rw [hG]; rfl)
          have HG := Lib.hid hG
          clear hG
          go_wp2_with fail
          exact bodyPost_ret (v := .tuple #[.agg G, .bool false]) (box_result2 (p := 2) (q := 3) rfl _ _ (by rfl) hR9 Try.underlying34 rfl (by rw [HGS.out]; kernel_rfl)) rfl ⟨by rw [HG.out, ← HB2.out, show rtN u = 0 by unfold rtN; rw [← HB2.out, cond_false], dig_nought], hB9⟩
        | true =>
          have HOK : Hid (rtOk u = true) := Lib.hid HB2.out.symm
          have x0 := hY.cell 0 (fArr_get _ 0 (by omega))
          obtain ⟨d, hd⟩ : ∃ d, d = dig n1 0 := ⟨_, rfl⟩
          have hdl : d < 65536 := by rw [hd]; exact dig_lt _ _
          have hdm : d % 2 = n1 % 2 := by rw [hd]; unfold dig; omega
          rw [← hd] at x0
          have e1 : ((d : Int)).tmod 2 = ((d % 2 : Nat) : Int) := by rw [Int.tmod_eq_emod_of_nonneg (by omega)]; omega
          obtain ⟨o, ho⟩ : ∃ o, o = d % 2 := ⟨_, rfl⟩
          have ho2 : o < 2 := by omega
          rw [← ho] at e1
          have HO : Hid (o = n1 % 2) := Lib.hid (by omega)
          clear ho hdm hd
          by_cases hodd : o = 1
          · have ob : ((o : Int) == 1) = true := by simp [hodd]
            have HN := Lib.hid (show n1 % 2 = 1 by rw [← HO.out]; exact hodd)
            clear hodd
            have HNEG : Hid (∀ w : World, Calls Try.prog 39 #[.agg (fArr (dig n1))] w fun e w' => e = .returned (.agg (fArr (dig (P25 - n1)))) ∧ Below w.heap.size w w') := by
              refine Lib.hid fun w => ?_
              have := refNeg_any n1 w (Nat.le_of_lt HTL.out)
              rw [Nat.mod_eq_of_lt (by have := HTL.out; have := HN.out; omega)] at this
              exact this
            have HNV : Hid (P25 - n1 = rtN u) := Lib.hid (by unfold rtN; rw [HOK.out, ← HT.out, HN.out]; rfl)
            obtain ⟨n9, hn9⟩ : ∃ n9, n9 = P25 - n1 := ⟨_, rfl⟩
            rw [← hn9] at HNEG HNV
            clear hn9
            go_upto_region 7 with fail
            go_step
            refine wpList_made 2 w8.heap.size w8 (Below.refl _ _) ?_
            simp only [List.take_succ_cons, List.take_zero, List.drop_succ_cons, List.drop_zero]
            refine wpQ_load_box rfl 34 _ rfl hY (by rfl) hY.lt Try.underlying34 rfl (by rw [fArr_size]; kernel_rfl) ?_
            simp only [Act.put, List.setIfInBounds_toArray, List.set_cons_zero, List.set_cons_succ]
            refine wpQ_call rfl 39 #[.agg (fArr (dig n1))] (fun w => by simp [go_sem]) _ (Nat.le_refl _) HNEG.out ?_
            simp only [Act.put, List.setIfInBounds_toArray, List.set_cons_zero, List.set_cons_succ]
            intro wc8 bm
            refine wpList_store_box (cells := (fArr (dig n9))) rfl 34 (.tmp 4) (.tmp 29) rfl (hY.after bm) (by simp [go_sem]) (by simp [go_sem]) (by rw [fArr_size, fArr_size]) (by rw [fArr_size]; kernel_rfl) (fArr_one _) ?_
            intro wd hY9 sm
            replace hX := sm.box (hX.after bm) (by omega)
            replace hR := sm.box (hR.after bm) (by omega)
            replace hB := sm.below w.heap.size w (by omega) (hB.trans (bm.mono (by omega)))
            replace hS : O + 1 ≤ wd.heap.size := by have := sm.size; have := bm.size; omega
            simp only [Act.put]
            clear sm bm hY x0
            have hY := hY9
            clear hY9
            go_upto_region 8 with fail
            go_step
            refine wpList_load_box rfl 34 _ rfl hY (by simp [go_sem]) Try.underlying34 rfl (by rw [fArr_size]; kernel_rfl) ?_
            refine wpList_store_box (cells := (fArr (dig n9))) rfl 34 (.tmp 2) (.tmp 30) rfl hR (by simp [go_sem]) (by simp [go_sem, Act.put]) (by rw [fArr_size]; rfl) (by rw [fArr_size]; kernel_rfl) (fArr_one _) ?_
            intro wz hR9 st9
            have hB9 := st9.below w.heap.size w (by omega) hB
            refine wpList_value rfl (.bool true) (by simp [go_sem]) ?_
            simp only [Act.put, List.setIfInBounds_toArray, List.set_cons_zero, List.set_cons_succ]
            have HZ : Hid (rtN u = n9) := Lib.hid (HNV.out.symm)
            clear st9 hX hR hY hB hS
            obtain ⟨G, hG⟩ : ∃ G, G = (fArr (dig n9)) := ⟨_, rfl⟩
            rw [← hG] at hR9
            have HGS := Lib.hid (show G.size = 16 by rw [hG]; exact fArr_size _)
            have HG := Lib.hid hG
            clear hG
            go_wp2_with fail
            exact bodyPost_ret (v := .tuple #[.agg G, .bool true]) (box_result2 (p := 2) (q := 3) rfl _ _ (by rfl) hR9 Try.underlying34 rfl (by rw [HGS.out]; kernel_rfl)) rfl ⟨by rw [HG.out, HOK.out, HZ.out], hB9⟩
          · have ob : ((o : Int) == 1) = false := by simp; omega
            have HN := Lib.hid (show n1 % 2 = 0 by rw [← HO.out]; omega)
            clear hodd
            go_upto_region 8 with fail
            go_step
            refine wpList_load_box rfl 34 _ rfl hY (by simp [go_sem]) Try.underlying34 rfl (by rw [fArr_size]; kernel_rfl) ?_
            refine wpList_store_box (cells := (fArr (dig n1))) rfl 34 (.tmp 2) (.tmp 30) rfl hR (by simp [go_sem]) (by simp [go_sem, Act.put]) (by rw [fArr_size]; rfl) (by rw [fArr_size]; kernel_rfl) (fArr_one _) ?_
            intro wz hR9 st9
            have hB9 := st9.below w.heap.size w (by omega) hB
            refine wpList_value rfl (.bool true) (by simp [go_sem]) ?_
            simp only [Act.put, List.setIfInBounds_toArray, List.set_cons_zero, List.set_cons_succ]
            have HZ : Hid (rtN u = n1) := Lib.hid (by unfold rtN; rw [HOK.out, ← HT.out, HN.out]; rfl)
            clear st9 hX hR hY hB hS
            obtain ⟨G, hG⟩ : ∃ G, G = (fArr (dig n1)) := ⟨_, rfl⟩
            rw [← hG] at hR9
            have HGS := Lib.hid (show G.size = 16 by rw [hG]; exact fArr_size _)
            have HG := Lib.hid hG
            clear hG
            go_wp2_with fail
            exact bodyPost_ret (v := .tuple #[.agg G, .bool true]) (box_result2 (p := 2) (q := 3) rfl _ _ (by rfl) hR9 Try.underlying34 rfl (by rw [HGS.out]; kernel_rfl)) rfl ⟨by rw [HG.out, HOK.out, HZ.out], hB9⟩
end Go.Proofs.Ytpkoniebbkkmjaa

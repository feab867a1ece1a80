/- field: the document's Root: what it computes. -/
import Derived.Test.YtddgkoheihlbdaaFldRoot
import Derived.Test.YtddgkoheihlbdaaSl5
namespace Go.Proofs.Ytddgkoheihlbdaa
open Go.RowKit

theorem p_pos : 0 < P25 := by unfold P25; omega
theorem p_lt {n : Nat} (h : n < P25) : n < 115792089237316195423570985008687907853269984665640564039457584007913129639936 := by unfold P25 at h; omega
theorem dig_nought : (Array.replicate 16 (Value.int .u64 0)) = fArr (dig 0) := by
  rw [← fArr_zero]
  refine congrArg fArr ?_
  funext j
  simp [dig]

attribute [local irreducible] pw rt0 rt1

set_option maxRecDepth 100000 in
set_option maxHeartbeats 2000000 in
theorem refRoot_any (u : Nat) (w : World) (hu : u < P25) : Calls Try.prog 42 #[.agg (fArr (dig u))] w fun e w' => e = .returned (.tuple #[.agg (fArr (dig (rtN u))), .bool (rtOk u)]) ∧ Below w.heap.size w w' := by
  have HX := Lib.hid hu
  obtain ⟨q0, hq0⟩ : ∃ q0, q0 = pw u (2 ^ 252 - 3) := ⟨_, rfl⟩
  have hq1 : q0 < P25 := by rw [hq0]; exact pw_lt _ _
  obtain ⟨n0, hn0⟩ : ∃ n0, n0 = q0 * u % P25 := ⟨_, rfl⟩
  have hn1 : n0 = rt0 u := by
    rw [hn0, hq0, pw_more, rt0_def]
  have HP : Hid (∀ w : World, Calls Try.prog 75 #[.agg (fArr (dig u)), .int .u64 5, .int .i64 3] w fun e w' => e = .returned (.agg (fArr (dig q0))) ∧ Below w.heap.size w w') := by
    refine Lib.hid fun w => ?_
    have := refPower_any u 5 3 w hu (by omega) (by omega)
    rwa [show (P25 - 5) / 2 ^ 3 = 2 ^ 252 - 3 by unfold P25; simp only [Nat.reducePow], ← hq0] at this
  have HM0 : Hid (∀ w : World, Calls Try.prog 39 #[.agg (fArr (dig q0)), .agg (fArr (dig u))] w fun e w' => e = .returned (.agg (fArr (dig n0))) ∧ Below w.heap.size w w') := by
    refine Lib.hid fun w => ?_
    have := refMul_any q0 u w (p_lt hq1) (p_lt hu)
    rwa [← hn0] at this
  have HL0 := Lib.hid (show n0 < P25 by rw [hn0]; exact Nat.mod_lt _ p_pos)
  obtain ⟨ns, hns⟩ : ∃ ns, ns = pw 2 (2 ^ 253 - 5) := ⟨_, rfl⟩
  have hns1 : ns < P25 := by rw [hns]; exact pw_lt _ _
  have HP2 : Hid (∀ w : World, Calls Try.prog 75 #[.agg (fArr (dig 2)), .int .u64 1, .int .i64 2] w fun e w' => e = .returned (.agg (fArr (dig ns))) ∧ Below w.heap.size w w') := by
    refine Lib.hid fun w => ?_
    have := refPower_any 2 1 2 w (by unfold P25; omega) (by omega) (by omega)
    rwa [show (P25 - 1) / 2 ^ 2 = 2 ^ 253 - 5 by unfold P25; simp only [Nat.reducePow], ← hns] at this
  have HO2 := Lib.hid (fun w : World => refOf_any 2 w (by decide))
  obtain ⟨n1, hn2⟩ : ∃ n1, n1 = n0 * ns % P25 := ⟨_, rfl⟩
  have HM1 : Hid (∀ w : World, Calls Try.prog 39 #[.agg (fArr (dig n0)), .agg (fArr (dig ns))] w fun e w' => e = .returned (.agg (fArr (dig n1))) ∧ Below w.heap.size w w') := by
    refine Lib.hid fun w => ?_
    have := refMul_any n0 ns w (p_lt HL0.out) (p_lt hns1)
    rwa [← hn2] at this
  have HL1 := Lib.hid (show n1 < P25 by rw [hn2]; exact Nat.mod_lt _ p_pos)
  have HN0 := Lib.hid hn1
  have HN1 := Lib.hid hn2
  have HNS := Lib.hid hns
  clear hn0 hn1 hn2 hns hns1 hq0 hq1 hu
  go_enter Try.func42, Try.ntmps42
  go_upto_region 1 with fail
  have g0 : Box ((w.alloc (.cells (fArr (dig u)) 34)).alloc (.cells (Array.replicate 16 (Value.int .u64 0)) 34)) w.heap.size 34 (fArr (dig u)) := (Box.new _ _ _).alloc _
  have g1 : Box ((w.alloc (.cells (fArr (dig u)) 34)).alloc (.cells (Array.replicate 16 (Value.int .u64 0)) 34)) (w.heap.size + 1) 34 (Array.replicate 16 (Value.int .u64 0)) := by
    have := Box.new (w.alloc (.cells (fArr (dig u)) 34)) 34 (Array.replicate 16 (Value.int .u64 0))
    simp only [World.size_alloc] at this
    exact this
  have g3 : Below w.heap.size w ((w.alloc (.cells (fArr (dig u)) 34)).alloc (.cells (Array.replicate 16 (Value.int .u64 0)) 34)) := ((Below.refl w.heap.size w).alloc (Nat.le_refl _) _).alloc (by simp) _
  have g4 : w.heap.size + 2 ≤ ((w.alloc (.cells (fArr (dig u)) 34)).alloc (.cells (Array.replicate 16 (Value.int .u64 0)) 34)).heap.size := by simp
  change Code.wp _ _ _ _ ((w.alloc (.cells (fArr (dig u)) 34)).alloc (.cells (Array.replicate 16 (Value.int .u64 0)) 34))
  generalize ((w.alloc (.cells (fArr (dig u)) 34)).alloc (.cells (Array.replicate 16 (Value.int .u64 0)) 34)) = W at *
  go_cut [4] from 5 (fun s4 w' => ∃ O, s4 = Value.pointer (some ⟨O, 0, none⟩) ∧ w.heap.size + 2 ≤ O ∧ Box w' O 34 (fArr (dig n0)) ∧ Box w' w.heap.size 34 (fArr (dig u)) ∧ Box w' (w.heap.size + 1) 34 (Array.replicate 16 (Value.int .u64 0)) ∧ Below w.heap.size w w' ∧ O + 1 ≤ w'.heap.size)
  case first =>
    have hq0 : Below (w.heap.size + 2) W W.drew := (Below.refl _ _).drew
    refine wp_region_held_drew (S := fun w' => Below (w.heap.size + 2) W w') rfl hq0 (fun _ => ?_)
    refine wpH_take 0 rfl (by kernel_rfl) (by kernel_rfl) (by kernel_rfl) rfl (fun _ _ _ _ h => h) (.agg (fArr (dig u))) (fun w' h => run_load_box rfl (g0.below h (by omega)) (by simp [go_sem]) Try.underlying34 rfl (by rw [fArr_size]; kernel_rfl)) hq0 ?_
    refine wpH_take 2 rfl (by kernel_rfl) (by kernel_rfl) (by kernel_rfl) rfl (fun _ _ _ _ h => h) (.agg (fArr (dig u))) (fun w' h => run_load_box rfl (g0.below h (by omega)) (by simp [go_sem, Act.put]) Try.underlying34 rfl (by rw [fArr_size]; kernel_rfl)) hq0 ?_
    refine wpH_enter_or_run 1 4 rfl rfl (by kernel_rfl) rfl rfl 75 #[.agg (fArr (dig u)), .int .u64 5, .int .i64 3] (by simp [go_sem, Act.put]) _ (HP.out _) _ _ (run_alloc_box rfl (Array.replicate 16 (Value.int .u64 0)) (by simp [go_sem]; rfl)) (hq0.alloc (by have hdz : W.drew.heap.size = W.heap.size := rfl; omega) _) ?_ ?_
    · rintro e v4 ⟨rfl, b4⟩
      have k4 := hq0.trans (b4.mono (by have hdz : W.drew.heap.size = W.heap.size := rfl; have := hq0.size; simp at this ⊢; omega))
      refine ⟨_, rfl, k4, ?_⟩
      refine wpH_enter_or_run 3 4 rfl rfl (by kernel_rfl) rfl rfl 39 #[.agg (fArr (dig q0)), .agg (fArr (dig u))] (by simp [go_sem, Act.put]) _ (HM0.out _) _ _ (run_alloc_box rfl (Array.replicate 16 (Value.int .u64 0)) (by simp [go_sem]; rfl)) (k4.alloc (by have hdz : W.drew.heap.size = W.heap.size := rfl; have := k4.size; omega) _) ?_ ?_
      · rintro e v5 ⟨rfl, b5⟩
        have k5 := k4.trans (b5.mono (by have hdz : W.drew.heap.size = W.heap.size := rfl; have := k4.size; simp at this ⊢; omega))
        refine ⟨_, rfl, k5, ?_⟩
        have k6 := k5.alloc (o := .cells (Array.replicate 16 (Value.int .u64 0)) 34) (by have hdz : W.drew.heap.size = W.heap.size := rfl; have := k5.size; omega)
        refine wpH_run 4 rfl (by kernel_rfl) rfl _ _ (run_alloc_box rfl (Array.replicate 16 (Value.int .u64 0)) (by simp [go_sem]; rfl)) k6 ?_
        refine wpH_store_box (cells := (fArr (dig n0))) 5 rfl (by kernel_rfl) rfl 34 (.tmp 4) (.tmp 8) rfl (Box.new _ _ _) (by simp [go_sem, Act.put]) (by simp [go_sem, Act.put]) (by rw [fArr_size]; rfl) (by rw [fArr_size]; kernel_rfl) (fArr_one _) ?_
        intro w9 hY9 s9
        have f1 : w.heap.size + 2 ≤ v5.heap.size := (by have hdz : W.drew.heap.size = W.heap.size := rfl; have := k5.size; omega)
        have k9 := s9.below _ _ f1 k6
        refine ⟨k9, ?_⟩
        refine wpAnyH_done (by kernel_rfl) ?_ _
        have fin : Box w9 (v5.heap.size) 34 (fArr (dig n0)) ∧ Box w9 w.heap.size 34 (fArr (dig u)) ∧ Box w9 (w.heap.size + 1) 34 (Array.replicate 16 (Value.int .u64 0)) ∧ Below w.heap.size w w9 :=
          ⟨hY9, g0.below k9 (by omega), g1.below k9 (by omega), g3.trans (k9.mono (by omega))⟩
        have f2 := hY9.lt
        simp only [Act.put, List.setIfInBounds_toArray, List.set_cons_zero, List.set_cons_succ]
        generalize v5.heap.size = OO at *
        clear hY9 s9 k4 k5 k6 b4 b5 hq0 k9 g0 g1 g3
        go_wp2_with fail
        go_meet
        case rel => exact ⟨OO, rfl, f1, fin.1, fin.2.1, fin.2.2.1, fin.2.2.2, f2⟩
      · have k5 := k4.alloc (o := .cells (Array.replicate 16 (Value.int .u64 0)) 34) (by have hdz : W.drew.heap.size = W.heap.size := rfl; have := k4.size; omega)
        refine wpH_enter 3 rfl (by kernel_rfl) rfl 39 #[.agg (fArr (dig q0)), .agg (fArr (dig u))] (by simp [go_sem, Act.put]) _ (HM0.out _) ?_
        rintro e v6 ⟨rfl, b6⟩
        have k6 := k5.trans (b6.mono (by have hdz : W.drew.heap.size = W.heap.size := rfl; have := k5.size; simp at this ⊢; omega))
        refine ⟨_, rfl, k6, ?_⟩
        refine wpH_store_box (cells := (fArr (dig n0))) 5 rfl (by kernel_rfl) rfl 34 (.tmp 4) (.tmp 8) rfl ((Box.new _ _ _).after b6) (by simp [go_sem, Act.put]) (by simp [go_sem, Act.put]) (by rw [fArr_size]; rfl) (by rw [fArr_size]; kernel_rfl) (fArr_one _) ?_
        intro w9 hY9 s9
        have f1 : w.heap.size + 2 ≤ v4.heap.size := (by have hdz : W.drew.heap.size = W.heap.size := rfl; have := k4.size; omega)
        have k9 := s9.below _ _ f1 k6
        refine ⟨k9, ?_⟩
        refine wpAnyH_done (by kernel_rfl) ?_ _
        have fin : Box w9 (v4.heap.size) 34 (fArr (dig n0)) ∧ Box w9 w.heap.size 34 (fArr (dig u)) ∧ Box w9 (w.heap.size + 1) 34 (Array.replicate 16 (Value.int .u64 0)) ∧ Below w.heap.size w w9 :=
          ⟨hY9, g0.below k9 (by omega), g1.below k9 (by omega), g3.trans (k9.mono (by omega))⟩
        have f2 := hY9.lt
        simp only [Act.put, List.setIfInBounds_toArray, List.set_cons_zero, List.set_cons_succ]
        generalize v4.heap.size = OO at *
        clear hY9 s9 k4 k5 k6 b4 b6 hq0 k9 g0 g1 g3
        go_wp2_with fail
        go_meet
        case rel => exact ⟨OO, rfl, f1, fin.1, fin.2.1, fin.2.2.1, fin.2.2.2, f2⟩
    · have hdz : W.drew.heap.size = W.heap.size := rfl
      have k4 := hq0.alloc (o := .cells (Array.replicate 16 (Value.int .u64 0)) 34) (by omega)
      refine wpH_enter 1 rfl (by kernel_rfl) rfl 75 #[.agg (fArr (dig u)), .int .u64 5, .int .i64 3] (by simp [go_sem, Act.put]) _ (HP.out _) ?_
      rintro e v5 ⟨rfl, b5⟩
      have k5 := k4.trans (b5.mono (by have hdz : W.drew.heap.size = W.heap.size := rfl; have := k4.size; simp at this ⊢; omega))
      refine ⟨_, rfl, k5, ?_⟩
      refine wpH_enter 3 rfl (by kernel_rfl) rfl 39 #[.agg (fArr (dig q0)), .agg (fArr (dig u))] (by simp [go_sem, Act.put]) _ (HM0.out _) ?_
      rintro e v6 ⟨rfl, b6⟩
      have k6 := k5.trans (b6.mono (by have hdz : W.drew.heap.size = W.heap.size := rfl; have := k5.size; simp at this ⊢; omega))
      refine ⟨_, rfl, k6, ?_⟩
      refine wpH_store_box (cells := (fArr (dig n0))) 5 rfl (by kernel_rfl) rfl 34 (.tmp 4) (.tmp 8) rfl (((Box.new _ _ _).after b5).after b6) (by simp [go_sem, Act.put]) (by simp [go_sem, Act.put]) (by rw [fArr_size]; rfl) (by rw [fArr_size]; kernel_rfl) (fArr_one _) ?_
      intro w9 hY9 s9
      have f1 : w.heap.size + 2 ≤ W.drew.heap.size := g4
      have k9 := s9.below _ _ f1 k6
      refine ⟨k9, ?_⟩
      refine wpAnyH_done (by kernel_rfl) ?_ _
      have fin : Box w9 (W.drew.heap.size) 34 (fArr (dig n0)) ∧ Box w9 w.heap.size 34 (fArr (dig u)) ∧ Box w9 (w.heap.size + 1) 34 (Array.replicate 16 (Value.int .u64 0)) ∧ Below w.heap.size w w9 :=
        ⟨hY9, g0.below k9 (by omega), g1.below k9 (by omega), g3.trans (k9.mono (by omega))⟩
      have f2 := hY9.lt
      simp only [Act.put, List.setIfInBounds_toArray, List.set_cons_zero, List.set_cons_succ]
      generalize W.drew.heap.size = OO at *
      clear hY9 s9 k4 k5 k6 b5 b6 hq0 k9 g0 g1 g3
      go_wp2_with fail
      go_meet
      case rel => exact ⟨OO, rfl, f1, fin.1, fin.2.1, fin.2.2.1, fin.2.2.2, f2⟩
  case rest =>
    obtain ⟨O, rfl, hO, hY, hX, hR, hB, hS⟩ := hcut
    clear g0 g1 g3 g4
    have HYY := Lib.hid (fun w : World => refMul_any n0 n0 w (p_lt HL0.out) (p_lt HL0.out))
    have HSM := Lib.hid (fun w : World => eql_fArr (n0 * n0 % P25) u (p_lt (Nat.mod_lt _ p_pos)) (p_lt HX.out) w)
    obtain ⟨b, hb⟩ : ∃ b, b = (n0 * n0 % P25 == u) := ⟨_, rfl⟩
    rw [← hb] at HSM
    have HB := Lib.hid hb
    clear hb
    obtain ⟨m1, hm1⟩ : ∃ m1, m1 = n0 * n0 % P25 := ⟨_, rfl⟩
    rw [← hm1] at HYY HSM
    clear hm1
    go_upto_region 2 with fail
    refine wp_region_made wc.heap.size wc rfl (by kernel_rfl) (Below.refl _ _) ?_
    refine wpQ_load_box rfl 34 _ rfl hY (by rfl) hY.lt Try.underlying34 rfl (by rw [fArr_size]; kernel_rfl) ?_
    simp only [Act.put, List.setIfInBounds_toArray, List.set_cons_zero, List.set_cons_succ]
    refine wpQ_load_box rfl 34 _ rfl hY (by rfl) hY.lt Try.underlying34 rfl (by rw [fArr_size]; kernel_rfl) ?_
    simp only [Act.put, List.setIfInBounds_toArray, List.set_cons_zero, List.set_cons_succ]
    refine wpQ_call rfl 39 #[.agg (fArr (dig n0)), .agg (fArr (dig n0))] (fun w => by simp [go_sem]) _ (Nat.le_refl _) HYY.out ?_
    simp only [Act.put, List.setIfInBounds_toArray, List.set_cons_zero, List.set_cons_succ]
    refine wpQ_load_box rfl 34 _ rfl hX (by rfl) hX.lt Try.underlying34 rfl (by rw [fArr_size]; kernel_rfl) ?_
    simp only [Act.put, List.setIfInBounds_toArray, List.set_cons_zero, List.set_cons_succ]
    refine wpQ_run rfl (.bool (!b)) (fun w hw => by simp [go_sem, HSM.out]) ?_
    simp only [Act.put, List.setIfInBounds_toArray, List.set_cons_zero, List.set_cons_succ]
    intro w3 bm
    replace hX := hX.after bm
    replace hR := hR.after bm
    replace hY := hY.after bm
    replace hB := hB.trans (bm.mono (by omega))
    replace hS : O + 1 ≤ w3.heap.size := by have := bm.size; omega
    clear bm
    clear HYY HSM
    cases b with
    | true =>
      have HT : Hid (n0 = rt1 u) := Lib.hid (by unfold rt1; rw [← HN0.out, ← HB.out, cond_true])
      have HTL := HL0
      have HYY := Lib.hid (fun w : World => refMul_any n0 n0 w (p_lt HTL.out) (p_lt HTL.out))
      have HSM := Lib.hid (fun w : World => eql_fArr (n0 * n0 % P25) u (p_lt (Nat.mod_lt _ p_pos)) (p_lt HX.out) w)
      obtain ⟨b2, hb2⟩ : ∃ b2, b2 = (n0 * n0 % P25 == u) := ⟨_, rfl⟩
      rw [← hb2] at HSM
      have HB2 : Hid (b2 = rtOk u) := Lib.hid (by rw [hb2, HT.out]; rfl)
      clear hb2
      generalize (n0 * n0 % P25) = m2 at *
      go_upto_region 4 with fail
      refine wp_region_made w3.heap.size w3 rfl (by kernel_rfl) (Below.refl _ _) ?_
      refine wpQ_load_box rfl 34 _ rfl hY (by rfl) hY.lt Try.underlying34 rfl (by rw [fArr_size]; kernel_rfl) ?_
      simp only [Act.put, List.setIfInBounds_toArray, List.set_cons_zero, List.set_cons_succ]
      refine wpQ_load_box rfl 34 _ rfl hY (by rfl) hY.lt Try.underlying34 rfl (by rw [fArr_size]; kernel_rfl) ?_
      simp only [Act.put, List.setIfInBounds_toArray, List.set_cons_zero, List.set_cons_succ]
      refine wpQ_call rfl 39 #[.agg (fArr (dig n0)), .agg (fArr (dig n0))] (fun w => by simp [go_sem]) _ (Nat.le_refl _) HYY.out ?_
      simp only [Act.put, List.setIfInBounds_toArray, List.set_cons_zero, List.set_cons_succ]
      refine wpQ_load_box rfl 34 _ rfl hX (by rfl) hX.lt Try.underlying34 rfl (by rw [fArr_size]; kernel_rfl) ?_
      simp only [Act.put, List.setIfInBounds_toArray, List.set_cons_zero, List.set_cons_succ]
      refine wpQ_run rfl (.bool (!b2)) (fun w hw => by simp [go_sem, HSM.out]) ?_
      simp only [Act.put, List.setIfInBounds_toArray, List.set_cons_zero, List.set_cons_succ]
      intro w8 bm
      replace hX := hX.after bm
      replace hR := hR.after bm
      replace hY := hY.after bm
      replace hB := hB.trans (bm.mono (by omega))
      replace hS : O + 1 ≤ w8.heap.size := by have := bm.size; omega
      clear bm
      clear HYY HSM
      cases b2 with
      | false =>
        go_upto_region 5 with fail
        go_step
        refine wpList_value rfl (.agg (Array.replicate 16 (Value.int .u64 0))) (by simp [go_sem]; rfl) ?_
        refine wpList_store_box (cells := (Array.replicate 16 (Value.int .u64 0))) rfl 34 (.tmp 2) (.tmp 23) rfl hR (by simp [go_sem, Act.put]) (by simp [go_sem, Act.put]) rfl (by kernel_rfl) (by rw [← fArr_zero]; exact fArr_one _) ?_
        intro wz hR9 st9
        have hB9 := st9.below w.heap.size w (by omega) hB
        refine wpList_value rfl (.bool false) (by simp [go_sem]) ?_
        simp only [Act.put, List.setIfInBounds_toArray, List.set_cons_zero, List.set_cons_succ]
        clear st9 hX hR hY hB hS
        obtain ⟨G, hG⟩ : ∃ G, G = (Array.replicate 16 (Value.int .u64 0)) := ⟨_, rfl⟩
        rw [← hG] at hR9
        have HGS := Lib.hid (show G.size = 16 by rw [hG]; rfl)
        have HG := Lib.hid hG
        clear hG
        go_wp2_with fail
        exact bodyPost_ret (v := .tuple #[.agg G, .bool false]) (box_result2 (p := 2) (q := 3) rfl _ _ (by rfl) hR9 Try.underlying34 rfl (by rw [HGS.out]; kernel_rfl)) rfl ⟨by rw [HG.out, ← HB2.out, show rtN u = 0 by unfold rtN; rw [← HB2.out, cond_false], dig_nought], hB9⟩
      | true =>
        have HOK : Hid (rtOk u = true) := Lib.hid HB2.out.symm
        have x0 := hY.cell 0 (fArr_get _ 0 (by omega))
        obtain ⟨d, hd⟩ : ∃ d, d = dig n0 0 := ⟨_, rfl⟩
        have hdl : d < 65536 := by rw [hd]; exact dig_lt _ _
        have hdm : d % 2 = n0 % 2 := by rw [hd]; unfold dig; omega
        rw [← hd] at x0
        have e1 : ((d : Int)).tmod 2 = ((d % 2 : Nat) : Int) := by rw [Int.tmod_eq_emod_of_nonneg (by omega)]; omega
        obtain ⟨o, ho⟩ : ∃ o, o = d % 2 := ⟨_, rfl⟩
        have ho2 : o < 2 := by omega
        rw [← ho] at e1
        have HO : Hid (o = n0 % 2) := Lib.hid (by omega)
        clear ho hdm hd
        by_cases hodd : o = 1
        · have ob : ((o : Int) == 1) = true := by simp [hodd]
          have HN := Lib.hid (show n0 % 2 = 1 by rw [← HO.out]; exact hodd)
          clear hodd
          have HNEG : Hid (∀ w : World, Calls Try.prog 73 #[.agg (fArr (dig n0))] w fun e w' => e = .returned (.agg (fArr (dig (P25 - n0)))) ∧ Below w.heap.size w w') := by
            refine Lib.hid fun w => ?_
            have := refNeg_any n0 w (Nat.le_of_lt HTL.out)
            rw [Nat.mod_eq_of_lt (by have := HTL.out; have := HN.out; omega)] at this
            exact this
          have HNV : Hid (P25 - n0 = rtN u) := Lib.hid (by unfold rtN; rw [HOK.out, ← HT.out, HN.out]; rfl)
          obtain ⟨n9, hn9⟩ : ∃ n9, n9 = P25 - n0 := ⟨_, rfl⟩
          rw [← hn9] at HNEG HNV
          clear hn9
          go_upto_region 7 with fail
          go_step
          refine wpList_made 2 w8.heap.size w8 (Below.refl _ _) ?_
          simp only [List.take_succ_cons, List.take_zero, List.drop_succ_cons, List.drop_zero]
          refine wpQ_load_box rfl 34 _ rfl hY (by rfl) hY.lt Try.underlying34 rfl (by rw [fArr_size]; kernel_rfl) ?_
          simp only [Act.put, List.setIfInBounds_toArray, List.set_cons_zero, List.set_cons_succ]
          refine wpQ_call rfl 73 #[.agg (fArr (dig n0))] (fun w => by simp [go_sem]) _ (Nat.le_refl _) HNEG.out ?_
          simp only [Act.put, List.setIfInBounds_toArray, List.set_cons_zero, List.set_cons_succ]
          intro wc8 bm
          refine wpList_store_box (cells := (fArr (dig n9))) rfl 34 (.tmp 4) (.tmp 29) rfl (hY.after bm) (by simp [go_sem]) (by simp [go_sem]) (by rw [fArr_size, fArr_size]) (by rw [fArr_size]; kernel_rfl) (fArr_one _) ?_
          intro wd hY9 sm
          replace hX := sm.box (hX.after bm) (by omega)
          replace hR := sm.box (hR.after bm) (by omega)
          replace hB := sm.below w.heap.size w (by omega) (hB.trans (bm.mono (by omega)))
          replace hS : O + 1 ≤ wd.heap.size := by have := sm.size; have := bm.size; omega
          simp only [Act.put]
          clear sm bm hY x0
          have hY := hY9
          clear hY9
          go_upto_region 8 with fail
          go_step
          refine wpList_load_box rfl 34 _ rfl hY (by simp [go_sem]) Try.underlying34 rfl (by rw [fArr_size]; kernel_rfl) ?_
          refine wpList_store_box (cells := (fArr (dig n9))) rfl 34 (.tmp 2) (.tmp 30) rfl hR (by simp [go_sem]) (by simp [go_sem, Act.put]) (by rw [fArr_size]; rfl) (by rw [fArr_size]; kernel_rfl) (fArr_one _) ?_
          intro wz hR9 st9
          have hB9 := st9.below w.heap.size w (by omega) hB
          refine wpList_value rfl (.bool true) (by simp [go_sem]) ?_
          simp only [Act.put, List.setIfInBounds_toArray, List.set_cons_zero, List.set_cons_succ]
          have HZ : Hid (rtN u = n9) := Lib.hid (HNV.out.symm)
          clear st9 hX hR hY hB hS
          obtain ⟨G, hG⟩ : ∃ G, G = (fArr (dig n9)) := ⟨_, rfl⟩
          rw [← hG] at hR9
          have HGS := Lib.hid (show G.size = 16 by rw [hG]; exact fArr_size _)
          have HG := Lib.hid hG
          clear hG
          go_wp2_with fail
          exact bodyPost_ret (v := .tuple #[.agg G, .bool true]) (box_result2 (p := 2) (q := 3) rfl _ _ (by rfl) hR9 Try.underlying34 rfl (by rw [HGS.out]; kernel_rfl)) rfl ⟨by rw [HG.out, HOK.out, HZ.out], hB9⟩
        · have ob : ((o : Int) == 1) = false := by simp; omega
          have HN := Lib.hid (show n0 % 2 = 0 by rw [← HO.out]; omega)
          clear hodd
          go_upto_region 8 with fail
          go_step
          refine wpList_load_box rfl 34 _ rfl hY (by simp [go_sem]) Try.underlying34 rfl (by rw [fArr_size]; kernel_rfl) ?_
          refine wpList_store_box (cells := (fArr (dig n0))) rfl 34 (.tmp 2) (.tmp 30) rfl hR (by simp [go_sem]) (by simp [go_sem, Act.put]) (by rw [fArr_size]; rfl) (by rw [fArr_size]; kernel_rfl) (fArr_one _) ?_
          intro wz hR9 st9
          have hB9 := st9.below w.heap.size w (by omega) hB
          refine wpList_value rfl (.bool true) (by simp [go_sem]) ?_
          simp only [Act.put, List.setIfInBounds_toArray, List.set_cons_zero, List.set_cons_succ]
          have HZ : Hid (rtN u = n0) := Lib.hid (by unfold rtN; rw [HOK.out, ← HT.out, HN.out]; rfl)
          clear st9 hX hR hY hB hS
          obtain ⟨G, hG⟩ : ∃ G, G = (fArr (dig n0)) := ⟨_, rfl⟩
          rw [← hG] at hR9
          have HGS := Lib.hid (show G.size = 16 by rw [hG]; exact fArr_size _)
          have HG := Lib.hid hG
          clear hG
          go_wp2_with fail
          exact bodyPost_ret (v := .tuple #[.agg G, .bool true]) (box_result2 (p := 2) (q := 3) rfl _ _ (by rfl) hR9 Try.underlying34 rfl (by rw [HGS.out]; kernel_rfl)) rfl ⟨by rw [HG.out, HOK.out, HZ.out], hB9⟩
    | false =>
      go_upto_region 3 with fail
      go_cut [4] from 14 (fun s4 w' => s4 = Value.pointer (some ⟨O, 0, none⟩) ∧ Box w' O 34 (fArr (dig n1)) ∧ Box w' w.heap.size 34 (fArr (dig u)) ∧ Box w' (w.heap.size + 1) 34 (Array.replicate 16 (Value.int .u64 0)) ∧ Below w.heap.size w w' ∧ O + 1 ≤ w'.heap.size)
      case first =>
        have hq0 : Below (w.heap.size + 2) w3 w3.drew := (Below.refl _ _).drew
        refine wp_region_held_drew (S := fun w' => Below (w.heap.size + 2) w3 w') rfl hq0 (fun _ => ?_)
        refine wpH_run_or_enter 0 1 rfl rfl (by kernel_rfl) rfl rfl (.agg (fArr (dig n0))) (run_load_box rfl hY.drew (by simp [go_sem]) Try.underlying34 rfl (by rw [fArr_size]; kernel_rfl)) hq0 22 #[.int .u64 2] (by simp [go_sem]) _ (HO2.out _) ?_ ?_
        · refine wpH_enter 1 rfl (by kernel_rfl) rfl 22 #[.int .u64 2] (by simp [go_sem, Act.put]) _ (HO2.out _) ?_
          rintro e w4 ⟨rfl, b4⟩
          have k4 := hq0.trans (b4.mono (by simp; omega))
          have y4 := hY.drew.after b4
          refine ⟨_, rfl, k4, ?_⟩
          refine wpH_enter 2 rfl (by kernel_rfl) rfl 75 #[.agg (fArr (dig 2)), .int .u64 1, .int .i64 2] (by simp [go_sem, Act.put]) _ (HP2.out _) ?_
          rintro e w5 ⟨rfl, b5⟩
          have k5 := k4.trans (b5.mono (by have hdz : W.drew.heap.size = W.heap.size := rfl; have := k4.size; omega))
          have y5 := y4.after b5
          refine ⟨_, rfl, k5, ?_⟩
          refine wpH_enter 3 rfl (by kernel_rfl) rfl 39 #[.agg (fArr (dig n0)), .agg (fArr (dig ns))] (by simp [go_sem, Act.put]) _ (HM1.out _) ?_
          rintro e w6 ⟨rfl, b6⟩
          have k6 := k5.trans (b6.mono (by have := k5.size; simp at this ⊢; omega))
          refine ⟨_, rfl, k6, ?_⟩
          refine wpH_store_box (cells := (fArr (dig n1))) 4 rfl (by kernel_rfl) rfl 34 (.tmp 4) (.tmp 17) rfl (y5.after b6) (by simp [go_sem, Act.put]) (by simp [go_sem, Act.put]) (by rw [fArr_size, fArr_size]) (by rw [fArr_size]; kernel_rfl) (fArr_one _) ?_
          intro w7 hY7 s7
          have k7 := s7.below _ _ (by omega) k6
          refine ⟨k7, ?_⟩
          refine wpAnyH_done (by kernel_rfl) ?_ _
          have fin : Value.pointer (some ⟨O, 0, none⟩) = .pointer (some ⟨O, 0, none⟩) ∧ Box w7 O 34 (fArr (dig n1)) ∧ Box w7 w.heap.size 34 (fArr (dig u)) ∧ Box w7 (w.heap.size + 1) 34 (Array.replicate 16 (Value.int .u64 0)) ∧ Below w.heap.size w w7 ∧ O + 1 ≤ w7.heap.size :=
            ⟨rfl, hY7, hX.below k7 (by omega), hR.below k7 (by omega), hB.trans (k7.mono (by omega)), by have := k7.size; omega⟩
          simp only [Act.put, List.setIfInBounds_toArray, List.set_cons_zero, List.set_cons_succ]
          clear s7 b6 k6 k7 hX hR hY hB hS
          go_wp2_with fail
          go_meet
          case rel => exact ⟨rfl, fin.2⟩
        · rintro e w4 ⟨rfl, b4⟩
          have k4 := hq0.trans (b4.mono (by simp; omega))
          have y4 := hY.drew.after b4
          refine ⟨_, rfl, k4, ?_⟩
          refine wpH_run_or_enter 0 2 rfl rfl (by kernel_rfl) rfl rfl (.agg (fArr (dig n0))) (run_load_box rfl y4 (by simp [go_sem, Act.put]) Try.underlying34 rfl (by rw [fArr_size]; kernel_rfl)) k4 75 #[.agg (fArr (dig 2)), .int .u64 1, .int .i64 2] (by simp [go_sem, Act.put]) _ (HP2.out _) ?_ ?_
          · refine wpH_enter 2 rfl (by kernel_rfl) rfl 75 #[.agg (fArr (dig 2)), .int .u64 1, .int .i64 2] (by simp [go_sem, Act.put]) _ (HP2.out _) ?_
            rintro e w5 ⟨rfl, b5⟩
            have k5 := k4.trans (b5.mono (by have hdz : W.drew.heap.size = W.heap.size := rfl; have := k4.size; omega))
            have y5 := y4.after b5
            refine ⟨_, rfl, k5, ?_⟩
            refine wpH_enter 3 rfl (by kernel_rfl) rfl 39 #[.agg (fArr (dig n0)), .agg (fArr (dig ns))] (by simp [go_sem, Act.put]) _ (HM1.out _) ?_
            rintro e w6 ⟨rfl, b6⟩
            have k6 := k5.trans (b6.mono (by have := k5.size; simp at this ⊢; omega))
            refine ⟨_, rfl, k6, ?_⟩
            refine wpH_store_box (cells := (fArr (dig n1))) 4 rfl (by kernel_rfl) rfl 34 (.tmp 4) (.tmp 17) rfl (y5.after b6) (by simp [go_sem, Act.put]) (by simp [go_sem, Act.put]) (by rw [fArr_size, fArr_size]) (by rw [fArr_size]; kernel_rfl) (fArr_one _) ?_
            intro w7 hY7 s7
            have k7 := s7.below _ _ (by omega) k6
            refine ⟨k7, ?_⟩
            refine wpAnyH_done (by kernel_rfl) ?_ _
            have fin : Value.pointer (some ⟨O, 0, none⟩) = .pointer (some ⟨O, 0, none⟩) ∧ Box w7 O 34 (fArr (dig n1)) ∧ Box w7 w.heap.size 34 (fArr (dig u)) ∧ Box w7 (w.heap.size + 1) 34 (Array.replicate 16 (Value.int .u64 0)) ∧ Below w.heap.size w w7 ∧ O + 1 ≤ w7.heap.size :=
              ⟨rfl, hY7, hX.below k7 (by omega), hR.below k7 (by omega), hB.trans (k7.mono (by omega)), by have := k7.size; omega⟩
            simp only [Act.put, List.setIfInBounds_toArray, List.set_cons_zero, List.set_cons_succ]
            clear s7 b6 k6 k7 hX hR hY hB hS
            go_wp2_with fail
            go_meet
            case rel => exact ⟨rfl, fin.2⟩
          · rintro e w5 ⟨rfl, b5⟩
            have k5 := k4.trans (b5.mono (by have hdz : W.drew.heap.size = W.heap.size := rfl; have := k4.size; omega))
            have y5 := y4.after b5
            refine ⟨_, rfl, k5, ?_⟩
            refine wpH_run 0 rfl (by kernel_rfl) rfl (.agg (fArr (dig n0))) w5 (run_load_box rfl y5 (by simp [go_sem, Act.put]) Try.underlying34 rfl (by rw [fArr_size]; kernel_rfl)) k5 ?_
            refine wpH_enter 3 rfl (by kernel_rfl) rfl 39 #[.agg (fArr (dig n0)), .agg (fArr (dig ns))] (by simp [go_sem, Act.put]) _ (HM1.out _) ?_
            rintro e w6 ⟨rfl, b6⟩
            have k6 := k5.trans (b6.mono (by have := k5.size; simp at this ⊢; omega))
            refine ⟨_, rfl, k6, ?_⟩
            refine wpH_store_box (cells := (fArr (dig n1))) 4 rfl (by kernel_rfl) rfl 34 (.tmp 4) (.tmp 17) rfl (y5.after b6) (by simp [go_sem, Act.put]) (by simp [go_sem, Act.put]) (by rw [fArr_size, fArr_size]) (by rw [fArr_size]; kernel_rfl) (fArr_one _) ?_
            intro w7 hY7 s7
            have k7 := s7.below _ _ (by omega) k6
            refine ⟨k7, ?_⟩
            refine wpAnyH_done (by kernel_rfl) ?_ _
            have fin : Value.pointer (some ⟨O, 0, none⟩) = .pointer (some ⟨O, 0, none⟩) ∧ Box w7 O 34 (fArr (dig n1)) ∧ Box w7 w.heap.size 34 (fArr (dig u)) ∧ Box w7 (w.heap.size + 1) 34 (Array.replicate 16 (Value.int .u64 0)) ∧ Below w.heap.size w w7 ∧ O + 1 ≤ w7.heap.size :=
              ⟨rfl, hY7, hX.below k7 (by omega), hR.below k7 (by omega), hB.trans (k7.mono (by omega)), by have := k7.size; omega⟩
            simp only [Act.put, List.setIfInBounds_toArray, List.set_cons_zero, List.set_cons_succ]
            clear s7 b6 k6 k7 hX hR hY hB hS
            go_wp2_with fail
            go_meet
            case rel => exact ⟨rfl, fin.2⟩
      case rest =>
        obtain ⟨rfl, hY, hX, hR, hB, hS⟩ := hcut
        have HT : Hid (n1 = rt1 u) := Lib.hid (by unfold rt1; rw [← HN0.out, ← HB.out, cond_false, ← HNS.out]; exact HN1.out)
        have HTL := HL1
        have HYY := Lib.hid (fun w : World => refMul_any n1 n1 w (p_lt HTL.out) (p_lt HTL.out))
        have HSM := Lib.hid (fun w : World => eql_fArr (n1 * n1 % P25) u (p_lt (Nat.mod_lt _ p_pos)) (p_lt HX.out) w)
        obtain ⟨b2, hb2⟩ : ∃ b2, b2 = (n1 * n1 % P25 == u) := ⟨_, rfl⟩
        rw [← hb2] at HSM
        have HB2 : Hid (b2 = rtOk u) := Lib.hid (by rw [hb2, HT.out]; rfl)
        clear hb2
        generalize (n1 * n1 % P25) = m2 at *
        go_upto_region 4 with fail
        refine wp_region_made wc.heap.size wc rfl (by kernel_rfl) (Below.refl _ _) ?_
        refine wpQ_load_box rfl 34 _ rfl hY (by rfl) hY.lt Try.underlying34 rfl (by rw [fArr_size]; kernel_rfl) ?_
        simp only [Act.put, List.setIfInBounds_toArray, List.set_cons_zero, List.set_cons_succ]
        refine wpQ_load_box rfl 34 _ rfl hY (by rfl) hY.lt Try.underlying34 rfl (by rw [fArr_size]; kernel_rfl) ?_
        simp only [Act.put, List.setIfInBounds_toArray, List.set_cons_zero, List.set_cons_succ]
        refine wpQ_call rfl 39 #[.agg (fArr (dig n1)), .agg (fArr (dig n1))] (fun w => by simp [go_sem]) _ (Nat.le_refl _) HYY.out ?_
        simp only [Act.put, List.setIfInBounds_toArray, List.set_cons_zero, List.set_cons_succ]
        refine wpQ_load_box rfl 34 _ rfl hX (by rfl) hX.lt Try.underlying34 rfl (by rw [fArr_size]; kernel_rfl) ?_
        simp only [Act.put, List.setIfInBounds_toArray, List.set_cons_zero, List.set_cons_succ]
        refine wpQ_run rfl (.bool (!b2)) (fun w hw => by simp [go_sem, HSM.out]) ?_
        simp only [Act.put, List.setIfInBounds_toArray, List.set_cons_zero, List.set_cons_succ]
        intro w8 bm
        replace hX := hX.after bm
        replace hR := hR.after bm
        replace hY := hY.after bm
        replace hB := hB.trans (bm.mono (by omega))
        replace hS : O + 1 ≤ w8.heap.size := by have := bm.size; omega
        clear bm
        clear HYY HSM
        cases b2 with
        | false =>
          go_upto_region 5 with fail
          go_step
          refine wpList_value rfl (.agg (Array.replicate 16 (Value.int .u64 0))) (by simp [go_sem]; rfl) ?_
          refine wpList_store_box (cells := (Array.replicate 16 (Value.int .u64 0))) rfl 34 (.tmp 2) (.tmp 23) rfl hR (by simp [go_sem, Act.put]) (by simp [go_sem, Act.put]) rfl (by kernel_rfl) (by rw [← fArr_zero]; exact fArr_one _) ?_
          intro wz hR9 st9
          have hB9 := st9.below w.heap.size w (by omega) hB
          refine wpList_value rfl (.bool false) (by simp [go_sem]) ?_
          simp only [Act.put, List.setIfInBounds_toArray, List.set_cons_zero, List.set_cons_succ]
          clear st9 hX hR hY hB hS
          obtain ⟨G, hG⟩ : ∃ G, G = (Array.replicate 16 (Value.int .u64 0)) := ⟨_, rfl⟩
          rw [← hG] at hR9
          have HGS := Lib.hid (show G.size = 16 by rw [hG]; rfl)
          have HG := Lib.hid hG
          clear hG
          go_wp2_with fail
          exact bodyPost_ret (v := .tuple #[.agg G, .bool false]) (box_result2 (p := 2) (q := 3) rfl _ _ (by rfl) hR9 Try.underlying34 rfl (by rw [HGS.out]; kernel_rfl)) rfl ⟨by rw [HG.out, ← HB2.out, show rtN u = 0 by unfold rtN; rw [← HB2.out, cond_false], dig_nought], hB9⟩
        | true =>
          have HOK : Hid (rtOk u = true) := Lib.hid HB2.out.symm
          have x0 := hY.cell 0 (fArr_get _ 0 (by omega))
          obtain ⟨d, hd⟩ : ∃ d, d = dig n1 0 := ⟨_, rfl⟩
          have hdl : d < 65536 := by rw [hd]; exact dig_lt _ _
          have hdm : d % 2 = n1 % 2 := by rw [hd]; unfold dig; omega
          rw [← hd] at x0
          have e1 : ((d : Int)).tmod 2 = ((d % 2 : Nat) : Int) := by rw [Int.tmod_eq_emod_of_nonneg (by omega)]; omega
          obtain ⟨o, ho⟩ : ∃ o, o = d % 2 := ⟨_, rfl⟩
          have ho2 : o < 2 := by omega
          rw [← ho] at e1
          have HO : Hid (o = n1 % 2) := Lib.hid (by omega)
          clear ho hdm hd
          by_cases hodd : o = 1
          · have ob : ((o : Int) == 1) = true := by simp [hodd]
            have HN := Lib.hid (show n1 % 2 = 1 by rw [← HO.out]; exact hodd)
            clear hodd
            have HNEG : Hid (∀ w : World, Calls Try.prog 73 #[.agg (fArr (dig n1))] w fun e w' => e = .returned (.agg (fArr (dig (P25 - n1)))) ∧ Below w.heap.size w w') := by
              refine Lib.hid fun w => ?_
              have := refNeg_any n1 w (Nat.le_of_lt HTL.out)
              rw [Nat.mod_eq_of_lt (by have := HTL.out; have := HN.out; omega)] at this
              exact this
            have HNV : Hid (P25 - n1 = rtN u) := Lib.hid (by unfold rtN; rw [HOK.out, ← HT.out, HN.out]; rfl)
            obtain ⟨n9, hn9⟩ : ∃ n9, n9 = P25 - n1 := ⟨_, rfl⟩
            rw [← hn9] at HNEG HNV
            clear hn9
            go_upto_region 7 with fail
            go_step
            refine wpList_made 2 w8.heap.size w8 (Below.refl _ _) ?_
            simp only [List.take_succ_cons, List.take_zero, List.drop_succ_cons, List.drop_zero]
            refine wpQ_load_box rfl 34 _ rfl hY (by rfl) hY.lt Try.underlying34 rfl (by rw [fArr_size]; kernel_rfl) ?_
            simp only [Act.put, List.setIfInBounds_toArray, List.set_cons_zero, List.set_cons_succ]
            refine wpQ_call rfl 73 #[.agg (fArr (dig n1))] (fun w => by simp [go_sem]) _ (Nat.le_refl _) HNEG.out ?_
            simp only [Act.put, List.setIfInBounds_toArray, List.set_cons_zero, List.set_cons_succ]
            intro wc8 bm
            refine wpList_store_box (cells := (fArr (dig n9))) rfl 34 (.tmp 4) (.tmp 29) rfl (hY.after bm) (by simp [go_sem]) (by simp [go_sem]) (by rw [fArr_size, fArr_size]) (by rw [fArr_size]; kernel_rfl) (fArr_one _) ?_
            intro wd hY9 sm
            replace hX := sm.box (hX.after bm) (by omega)
            replace hR := sm.box (hR.after bm) (by omega)
            replace hB := sm.below w.heap.size w (by omega) (hB.trans (bm.mono (by omega)))
            replace hS : O + 1 ≤ wd.heap.size := by have := sm.size; have := bm.size; omega
            simp only [Act.put]
            clear sm bm hY x0
            have hY := hY9
            clear hY9
            go_upto_region 8 with fail
            go_step
            refine wpList_load_box rfl 34 _ rfl hY (by simp [go_sem]) Try.underlying34 rfl (by rw [fArr_size]; kernel_rfl) ?_
            refine wpList_store_box (cells := (fArr (dig n9))) rfl 34 (.tmp 2) (.tmp 30) rfl hR (by simp [go_sem]) (by simp [go_sem, Act.put]) (by rw [fArr_size]; rfl) (by rw [fArr_size]; kernel_rfl) (fArr_one _) ?_
            intro wz hR9 st9
            have hB9 := st9.below w.heap.size w (by omega) hB
            refine wpList_value rfl (.bool true) (by simp [go_sem]) ?_
            simp only [Act.put, List.setIfInBounds_toArray, List.set_cons_zero, List.set_cons_succ]
            have HZ : Hid (rtN u = n9) := Lib.hid (HNV.out.symm)
            clear st9 hX hR hY hB hS
            obtain ⟨G, hG⟩ : ∃ G, G = (fArr (dig n9)) := ⟨_, rfl⟩
            rw [← hG] at hR9
            have HGS := Lib.hid (show G.size = 16 by rw [hG]; exact fArr_size _)
            have HG := Lib.hid hG
            clear hG
            go_wp2_with fail
            exact bodyPost_ret (v := .tuple #[.agg G, .bool true]) (box_result2 (p := 2) (q := 3) rfl _ _ (by rfl) hR9 Try.underlying34 rfl (by rw [HGS.out]; kernel_rfl)) rfl ⟨by rw [HG.out, HOK.out, HZ.out], hB9⟩
          · have ob : ((o : Int) == 1) = false := by simp; omega
            have HN := Lib.hid (show n1 % 2 = 0 by rw [← HO.out]; omega)
            clear hodd
            go_upto_region 8 with fail
            go_step
            refine wpList_load_box rfl 34 _ rfl hY (by simp [go_sem]) Try.underlying34 rfl (by rw [fArr_size]; kernel_rfl) ?_
            refine wpList_store_box (cells := (fArr (dig n1))) rfl 34 (.tmp 2) (.tmp 30) rfl hR (by simp [go_sem]) (by simp [go_sem, Act.put]) (by rw [fArr_size]; rfl) (by rw [fArr_size]; kernel_rfl) (fArr_one _) ?_
            intro wz hR9 st9
            have hB9 := st9.below w.heap.size w (by omega) hB
            refine wpList_value rfl (.bool true) (by simp [go_sem]) ?_
            simp only [Act.put, List.setIfInBounds_toArray, List.set_cons_zero, List.set_cons_succ]
            have HZ : Hid (rtN u = n1) := Lib.hid (by unfold rtN; rw [HOK.out, ← HT.out, HN.out]; rfl)
            clear st9 hX hR hY hB hS
            obtain ⟨G, hG⟩ : ∃ G, G = (fArr (dig n1)) := ⟨_, rfl⟩
            rw [← hG] at hR9
            have HGS := Lib.hid (show G.size = 16 by rw [hG]; exact fArr_size _)
            have HG := Lib.hid hG
            clear hG
            go_wp2_with fail
            exact bodyPost_ret (v := .tuple #[.agg G, .bool true]) (box_result2 (p := 2) (q := 3) rfl _ _ (by rfl) hR9 Try.underlying34 rfl (by rw [HGS.out]; kernel_rfl)) rfl ⟨by rw [HG.out, HOK.out, HZ.out], hB9⟩
end Go.Proofs.Ytddgkoheihlbdaa

/- PointAdds, PointLaws: the walks. -/
import Derived.Test.YtpkoniebbkkmjaaPtTwo
namespace Go.Proofs.Ytpkoniebbkkmjaa
open Go.RowKit
set_option linter.unusedVariables false
attribute [local irreducible] fi dN xx rtN rtOk pw fa fs fm yB getOk getX

theorem split_bytes (l : List UInt8) (h : l.length = 32) : ∃ r q, r < 2 ^ 255 ∧ q < 2 ∧ l = leBytes (r + 2 ^ 255 * q) 32 := by
  have h1 := bytes_of l
  have h2 := leNat_lt l
  rw [h] at h1 h2
  refine ⟨leNat l % 2 ^ 255, leNat l / 2 ^ 255, Nat.mod_lt _ (by simp only [Nat.reducePow]; omega), by simp only [Nat.reducePow] at *; omega, ?_⟩
  rw [Nat.mod_add_div]
  exact h1
theorem got_bytes (r q : Nat) (hq : q < 2) (h : getOk r q = true) : pbytes ⟨getX r q, r⟩ = r + 2 ^ 255 * q := (rep_bytes (got_rep r q h).toRep3).symm.trans (pN_get r q hq h)
theorem same_law (r q s k : Nat) (hr : r < 2 ^ 255) (hq : q < 2) (hs : s < 2 ^ 255) (hk : k < 2) (h1 : getOk r q = true) (h2 : getOk s k = true) : ((PP.mk (getX r q) r).x == (PP.mk (getX s k) s).x && (PP.mk (getX r q) r).y == (PP.mk (getX s k) s).y) = (r + 2 ^ 255 * q == s + 2 ^ 255 * k) := by
  have e1 := got_bytes r q hq h1
  have e2 := got_bytes s k hk h2
  rw [Bool.eq_iff_iff]
  simp only [Bool.and_eq_true, beq_iff_eq]
  constructor
  · rintro ⟨h3, h4⟩
    rw [← e1, ← e2]
    unfold pbytes
    simp only
    rw [h3, h4]
  · intro h
    have h5 : r = s ∧ q = k := by simp only [Nat.reducePow] at *; omega
    obtain ⟨rfl, rfl⟩ := h5
    exact ⟨rfl, rfl⟩
set_option linter.unusedSimpArgs false in
set_option maxRecDepth 100000 in
set_option maxHeartbeats 20000000 in
theorem PointAdds_walk (l0 l1 : List UInt8) (w : World) (w0 : l0.length = 32) (w1 : l1.length = 32) : Calls Try.prog 4 #[.agg (lCells l0).toArray, .agg (lCells l1).toArray] w fun e w' => e = .returned (.bool true) ∧ Below w.heap.size w w' := by
  obtain ⟨r0, q0, hr0, hq0, hl0⟩ : ∃ r q, r < 2 ^ 255 ∧ q < 2 ∧ l0 = leBytes (r + 2 ^ 255 * q) 32 := split_bytes l0 w0
  subst hl0
  rw [show (lCells (leBytes (r0 + 2 ^ 255 * q0) 32)).toArray = bts (r0 + 2 ^ 255 * q0) from rfl]
  have HT0 := Lib.hid (two_is r0 q0 hr0 hq0)
  unfold RetTwo at HT0
  obtain ⟨r1, q1, hr1, hq1, hl1⟩ : ∃ r q, r < 2 ^ 255 ∧ q < 2 ∧ l1 = leBytes (r + 2 ^ 255 * q) 32 := split_bytes l1 w1
  subst hl1
  rw [show (lCells (leBytes (r1 + 2 ^ 255 * q1) 32)).toArray = bts (r1 + 2 ^ 255 * q1) from rfl]
  have HT1 := Lib.hid (two_is r1 q1 hr1 hq1)
  unfold RetTwo at HT1
  have HSE := Lib.hid (same_law r0 q0 r1 q1 hr0 hq0 hr1 hq1)
  have HEQ := Lib.hid (eql_bts (r0 + 2 ^ 255 * q0) (r1 + 2 ^ 255 * q1) (by simp only [Nat.reducePow] at *; omega) (by simp only [Nat.reducePow] at *; omega))
  have hN0 := got_bytes r0 q0 hq0
  generalize (PP.mk (getX r0 q0) r0) = a0 at *
  generalize getOk r0 q0 = oka at *
  generalize r0 + 2 ^ 255 * q0 = n0 at *
  clear hr0 hq0 hN0 w0
  have hN1 := got_bytes r1 q1 hq1
  generalize (PP.mk (getX r1 q1) r1) = a1 at *
  generalize getOk r1 q1 = okb at *
  generalize r1 + 2 ^ 255 * q1 = n1 at *
  clear hr1 hq1 hN1 w1
  go_enter Try.func4, Try.ntmps4
  go_upto_region 1 with fail
  have hA0 : Box ((w.alloc (.cells (bts n0) 39)).alloc (.cells (bts n1) 39)) w.heap.size 39 (bts n0) := ((Box.new w 39 (bts n0)).alloc (.cells (bts n1) 39))
  have lA0 : w.heap.size ≤ w.heap.size := by omega
  have hA1 : Box ((w.alloc (.cells (bts n0) 39)).alloc (.cells (bts n1) 39)) (w.heap.size + 1) 39 (bts n1) := by
    have := (Box.new (w.alloc (.cells (bts n0) 39)) 39 (bts n1))
    simp only [World.size_alloc] at this
    exact this
  have lA1 : w.heap.size ≤ (w.heap.size + 1) := by omega
  have n_A0_A1 : w.heap.size ≠ (w.heap.size + 1) := by omega
  have n_A1_A0 : (w.heap.size + 1) ≠ w.heap.size := by omega
  have hB : Below w.heap.size w ((w.alloc (.cells (bts n0) 39)).alloc (.cells (bts n1) 39)) := (((Below.refl w.heap.size w).alloc (by simp; try omega) (.cells (bts n0) 39)).alloc (by simp; try omega) (.cells (bts n1) 39))
  have hS := hB.size
  change Code.wp _ _ _ _ ((w.alloc (.cells (bts n0) 39)).alloc (.cells (bts n1) 39))
  generalize ((w.alloc (.cells (bts n0) 39)).alloc (.cells (bts n1) 39)) = v0 at *
  go_step
  refine wpList_load_box rfl 39 _ rfl hA0 (by rfl) Try.underlying39 rfl (by rw [bts_size]; kernel_rfl) ?_
  simp only [Act.put, List.setIfInBounds_toArray, List.set_cons_zero, List.set_cons_succ]
  refine wpList_enterR rfl 14 #[.agg (bts n0)] (by simp [go_sem]) _ (HT0.out _) ?_
  rintro e v1 ⟨xa, ya, za, ta, ua, va, ma, rfl, hpa, bv1⟩
  refine ⟨_, rfl, ?_⟩
  simp only [Act.put, List.setIfInBounds_toArray, List.set_cons_zero, List.set_cons_succ]
  replace hA0 := hA0.after bv1
  replace hA1 := hA1.after bv1
  replace hB := hB.trans (bv1.mono hS)
  replace hS := Nat.le_trans hS bv1.size
  clear bv1
  have HPa := Lib.hid hpa
  clear hpa
  refine wpList_value rfl (.tuple #[.agg (pArr xa ya za ta), .agg (qArr ua va ma), .bool oka]) (by simp [go_sem]) ?_
  simp only [Act.put, List.setIfInBounds_toArray, List.set_cons_zero, List.set_cons_succ]
  refine wpList_value rfl (.agg (pArr xa ya za ta)) (by simp [go_sem]) ?_
  simp only [Act.put, List.setIfInBounds_toArray, List.set_cons_zero, List.set_cons_succ]
  refine wpList_value rfl (.agg (qArr ua va ma)) (by simp [go_sem]) ?_
  simp only [Act.put, List.setIfInBounds_toArray, List.set_cons_zero, List.set_cons_succ]
  refine wpList_value rfl (.bool oka) (by simp [go_sem]) ?_
  simp only [Act.put, List.setIfInBounds_toArray, List.set_cons_zero, List.set_cons_succ]
  refine wpList_new rfl 29 rfl #[.int .u64 0, .int .u64 0, .int .u64 0, .int .u64 0, .int .u64 0, .int .u64 0, .int .u64 0, .int .u64 0, .int .u64 0, .int .u64 0, .int .u64 0, .int .u64 0, .int .u64 0, .int .u64 0, .int .u64 0, .int .u64 0, .int .u64 0, .int .u64 0, .int .u64 0, .int .u64 0] (by intro w; simp [go_sem]) ?_
  intro gP0 v2 hP0 lP0 bv2
  simp only [Act.put, List.setIfInBounds_toArray, List.set_cons_zero, List.set_cons_succ]
  have n_A0_P0 := hA0.before lP0
  have n_P0_A0 := hA0.behind lP0
  have n_A1_P0 := hA1.before lP0
  have n_P0_A1 := hA1.behind lP0
  replace lP0 := Nat.le_trans hS lP0
  replace hA0 := hA0.after bv2
  replace hA1 := hA1.after bv2
  replace hB := hB.trans (bv2.mono hS)
  replace hS := Nat.le_trans hS bv2.size
  clear bv2
  refine wpList_new rfl 36 rfl (Array.replicate 48 (Value.int .u64 0)) (by intro w; simp [go_sem]; rfl) ?_
  intro gU0 v3 hU0 lU0 bv3
  simp only [Act.put, List.setIfInBounds_toArray, List.set_cons_zero, List.set_cons_succ]
  have n_A0_U0 := hA0.before lU0
  have n_U0_A0 := hA0.behind lU0
  have n_A1_U0 := hA1.before lU0
  have n_U0_A1 := hA1.behind lU0
  have n_P0_U0 := hP0.before lU0
  have n_U0_P0 := hP0.behind lU0
  replace lU0 := Nat.le_trans hS lU0
  replace hA0 := hA0.after bv3
  replace hA1 := hA1.after bv3
  replace hP0 := hP0.after bv3
  replace hB := hB.trans (bv3.mono hS)
  replace hS := Nat.le_trans hS bv3.size
  clear bv3
  refine wpList_store_box (cells := pArr xa ya za ta) rfl 29 (.tmp 5) (.tmp 14) rfl hP0 (by rfl) (by rfl) (by rw [pArr_size xa ya za ta]; rfl) (by rw [pArr_size xa ya za ta]; kernel_rfl) (pArr_one _ _ _ _) ?_
  intro v4 hP0_ stv4
  simp only [Act.put]
  replace hA0 := stv4.box hA0 n_A0_P0
  replace hA1 := stv4.box hA1 n_A1_P0
  replace hU0 := stv4.box hU0 n_U0_P0
  replace hB := stv4.below w.heap.size w lP0 hB
  replace hS := Nat.le_trans hS (Nat.le_of_eq stv4.size.symm)
  clear hP0 stv4
  have hP0 := hP0_
  clear hP0_
  refine wpList_store_box (cells := qArr ua va ma) rfl 36 (.tmp 6) (.tmp 15) rfl hU0 (by rfl) (by rfl) (by rw [qArr_size ua va ma]; rfl) (by rw [qArr_size ua va ma]; kernel_rfl) (qArr_one _ _ _) ?_
  intro v5 hU0_ stv5
  simp only [Act.put]
  replace hA0 := stv5.box hA0 n_A0_U0
  replace hA1 := stv5.box hA1 n_A1_U0
  replace hP0 := stv5.box hP0 n_P0_U0
  replace hB := stv5.below w.heap.size w lU0 hB
  replace hS := Nat.le_trans hS (Nat.le_of_eq stv5.size.symm)
  clear hU0 stv5
  have hU0 := hU0_
  clear hU0_
  refine wpList_value rfl (.bool oka) (by simp [go_sem]) ?_
  simp only [Act.put, List.setIfInBounds_toArray, List.set_cons_zero, List.set_cons_succ]
  go_upto_region 2 with fail
  go_step
  refine wpList_load_box rfl 39 _ rfl hA1 (by rfl) Try.underlying39 rfl (by rw [bts_size]; kernel_rfl) ?_
  simp only [Act.put, List.setIfInBounds_toArray, List.set_cons_zero, List.set_cons_succ]
  refine wpList_enterR rfl 14 #[.agg (bts n1)] (by simp [go_sem]) _ (HT1.out _) ?_
  rintro e v6 ⟨xb, yb, zb, tb, ub, vb, mb, rfl, hpb, bv6⟩
  refine ⟨_, rfl, ?_⟩
  simp only [Act.put, List.setIfInBounds_toArray, List.set_cons_zero, List.set_cons_succ]
  replace hA0 := hA0.after bv6
  replace hA1 := hA1.after bv6
  replace hP0 := hP0.after bv6
  replace hU0 := hU0.after bv6
  replace hB := hB.trans (bv6.mono hS)
  replace hS := Nat.le_trans hS bv6.size
  clear bv6
  have HPb := Lib.hid hpb
  clear hpb
  refine wpList_value rfl (.tuple #[.agg (pArr xb yb zb tb), .agg (qArr ub vb mb), .bool okb]) (by simp [go_sem]) ?_
  simp only [Act.put, List.setIfInBounds_toArray, List.set_cons_zero, List.set_cons_succ]
  refine wpList_value rfl (.agg (pArr xb yb zb tb)) (by simp [go_sem]) ?_
  simp only [Act.put, List.setIfInBounds_toArray, List.set_cons_zero, List.set_cons_succ]
  refine wpList_value rfl (.agg (qArr ub vb mb)) (by simp [go_sem]) ?_
  simp only [Act.put, List.setIfInBounds_toArray, List.set_cons_zero, List.set_cons_succ]
  refine wpList_value rfl (.bool okb) (by simp [go_sem]) ?_
  simp only [Act.put, List.setIfInBounds_toArray, List.set_cons_zero, List.set_cons_succ]
  refine wpList_new rfl 29 rfl #[.int .u64 0, .int .u64 0, .int .u64 0, .int .u64 0, .int .u64 0, .int .u64 0, .int .u64 0, .int .u64 0, .int .u64 0, .int .u64 0, .int .u64 0, .int .u64 0, .int .u64 0, .int .u64 0, .int .u64 0, .int .u64 0, .int .u64 0, .int .u64 0, .int .u64 0, .int .u64 0] (by intro w; simp [go_sem]) ?_
  intro gP1 v7 hP1 lP1 bv7
  simp only [Act.put, List.setIfInBounds_toArray, List.set_cons_zero, List.set_cons_succ]
  have n_A0_P1 := hA0.before lP1
  have n_P1_A0 := hA0.behind lP1
  have n_A1_P1 := hA1.before lP1
  have n_P1_A1 := hA1.behind lP1
  have n_P0_P1 := hP0.before lP1
  have n_P1_P0 := hP0.behind lP1
  have n_U0_P1 := hU0.before lP1
  have n_P1_U0 := hU0.behind lP1
  replace lP1 := Nat.le_trans hS lP1
  replace hA0 := hA0.after bv7
  replace hA1 := hA1.after bv7
  replace hP0 := hP0.after bv7
  replace hU0 := hU0.after bv7
  replace hB := hB.trans (bv7.mono hS)
  replace hS := Nat.le_trans hS bv7.size
  clear bv7
  refine wpList_new rfl 36 rfl (Array.replicate 48 (Value.int .u64 0)) (by intro w; simp [go_sem]; rfl) ?_
  intro gU1 v8 hU1 lU1 bv8
  simp only [Act.put, List.setIfInBounds_toArray, List.set_cons_zero, List.set_cons_succ]
  have n_A0_U1 := hA0.before lU1
  have n_U1_A0 := hA0.behind lU1
  have n_A1_U1 := hA1.before lU1
  have n_U1_A1 := hA1.behind lU1
  have n_P0_U1 := hP0.before lU1
  have n_U1_P0 := hP0.behind lU1
  have n_U0_U1 := hU0.before lU1
  have n_U1_U0 := hU0.behind lU1
  have n_P1_U1 := hP1.before lU1
  have n_U1_P1 := hP1.behind lU1
  replace lU1 := Nat.le_trans hS lU1
  replace hA0 := hA0.after bv8
  replace hA1 := hA1.after bv8
  replace hP0 := hP0.after bv8
  replace hU0 := hU0.after bv8
  replace hP1 := hP1.after bv8
  replace hB := hB.trans (bv8.mono hS)
  replace hS := Nat.le_trans hS bv8.size
  clear bv8
  refine wpList_store_box (cells := pArr xb yb zb tb) rfl 29 (.tmp 8) (.tmp 20) rfl hP1 (by rfl) (by rfl) (by rw [pArr_size xb yb zb tb]; rfl) (by rw [pArr_size xb yb zb tb]; kernel_rfl) (pArr_one _ _ _ _) ?_
  intro v9 hP1_ stv9
  simp only [Act.put]
  replace hA0 := stv9.box hA0 n_A0_P1
  replace hA1 := stv9.box hA1 n_A1_P1
  replace hP0 := stv9.box hP0 n_P0_P1
  replace hU0 := stv9.box hU0 n_U0_P1
  replace hU1 := stv9.box hU1 n_U1_P1
  replace hB := stv9.below w.heap.size w lP1 hB
  replace hS := Nat.le_trans hS (Nat.le_of_eq stv9.size.symm)
  clear hP1 stv9
  have hP1 := hP1_
  clear hP1_
  refine wpList_store_box (cells := qArr ub vb mb) rfl 36 (.tmp 9) (.tmp 21) rfl hU1 (by rfl) (by rfl) (by rw [qArr_size ub vb mb]; rfl) (by rw [qArr_size ub vb mb]; kernel_rfl) (qArr_one _ _ _) ?_
  intro v10 hU1_ stv10
  simp only [Act.put]
  replace hA0 := stv10.box hA0 n_A0_U1
  replace hA1 := stv10.box hA1 n_A1_U1
  replace hP0 := stv10.box hP0 n_P0_U1
  replace hU0 := stv10.box hU0 n_U0_U1
  replace hP1 := stv10.box hP1 n_P1_U1
  replace hB := stv10.below w.heap.size w lU1 hB
  replace hS := Nat.le_trans hS (Nat.le_of_eq stv10.size.symm)
  clear hU1 stv10
  have hU1 := hU1_
  clear hU1_
  refine wpList_value rfl (.bool okb) (by simp [go_sem]) ?_
  simp only [Act.put, List.setIfInBounds_toArray, List.set_cons_zero, List.set_cons_succ]
  cases oka with
  | false =>
    clear hA0 hA1 hP0 hU0 hP1 hU1
    go_wp2_with fail
    refine (awake7_any _).mono ?_
    rintro e w9 ⟨rfl, hb9⟩
    have hB9 := hB.trans (hb9.mono hB.size)
    clear hb9 hB hS
    go_wp2_with fail
    go_ret
    exact ⟨rfl, hB9⟩
  | true =>
    cases okb with
    | false =>
      clear hA0 hA1 hP0 hU0 hP1 hU1
      go_wp2_with fail
      refine (awake7_any _).mono ?_
      rintro e w9 ⟨rfl, hb9⟩
      have hB9 := hB.trans (hb9.mono hB.size)
      clear hb9 hB hS
      go_wp2_with fail
      go_ret
      exact ⟨rfl, hB9⟩
    | true =>
      have Ha := Lib.hid (HPa.out (by first | rfl | trivial)).1
      have Ga := Lib.hid (HPa.out (by first | rfl | trivial)).2
      have Hb := Lib.hid (HPb.out (by first | rfl | trivial)).1
      have Gb := Lib.hid (HPb.out (by first | rfl | trivial)).2
      have HSE2 := Lib.hid (HSE.out (by first | rfl | trivial) (by first | rfl | trivial))
      go_upto_region 5 with fail
      have hKS : Keeps (fun w' => Box w' gP0 29 (pArr xa ya za ta) ∧ Box w' gU0 36 (qArr ua va ma) ∧ Box w' gP1 29 (pArr xb yb zb tb) ∧ Box w' gU1 36 (qArr ub vb mb) ∧ Box w' w.heap.size 39 ((bts n0)) ∧ Box w' (w.heap.size + 1) 39 ((bts n1))) := fun w w' h b => ⟨h.1.after b, h.2.1.after b, h.2.2.1.after b, h.2.2.2.1.after b, h.2.2.2.2.1.after b, h.2.2.2.2.2.after b⟩
      refine wp_region_U (w := v10) (fun w' => Box w' gP0 29 (pArr xa ya za ta) ∧ Box w' gU0 36 (qArr ua va ma) ∧ Box w' gP1 29 (pArr xb yb zb tb) ∧ Box w' gU1 36 (qArr ub vb mb) ∧ Box w' w.heap.size 39 ((bts n0)) ∧ Box w' (w.heap.size + 1) 39 ((bts n1))) rfl (⟨hP0.drew, hU0.drew, hP1.drew, hU1.drew, hA0.drew, hA1.drew⟩) ?_
      replace hA0 := hA0.drew
      replace hA1 := hA1.drew
      replace hP0 := hP0.drew
      replace hU0 := hU0.drew
      replace hP1 := hP1.drew
      replace hU1 := hU1.drew
      replace hB := hB.drew
      replace hS := Nat.le_trans hS (show v10.heap.size ≤ v10.drew.heap.size from Nat.le_refl _)
      refine wpU_val 0 hKS rfl (by kernel_rfl) (by kernel_rfl) (by kernel_rfl) rfl (fun _ _ _ _ h => h) (.agg (pArr xa ya za ta)) (fun w' h => run_load_box rfl h.1 (by simp [go_sem]) Try.underlying29 rfl (by rw [pArr_size xa ya za ta]; kernel_rfl)) ?_
      simp only [Act.put, List.setIfInBounds_toArray, List.set_cons_zero, List.set_cons_succ]
      refine wpU_val 1 hKS rfl (by kernel_rfl) (by kernel_rfl) (by kernel_rfl) rfl (fun _ _ _ _ h => h) (.agg (pArr xb yb zb tb)) (fun w' h => run_load_box rfl h.2.2.1 (by simp [go_sem]) Try.underlying29 rfl (by rw [pArr_size xb yb zb tb]; kernel_rfl)) ?_
      simp only [Act.put, List.setIfInBounds_toArray, List.set_cons_zero, List.set_cons_succ]
      refine wpU_val 3 hKS rfl (by kernel_rfl) (by kernel_rfl) (by kernel_rfl) rfl (fun _ _ _ _ h => h) (.agg (qArr ua va ma)) (fun w' h => run_load_box rfl h.2.1 (by simp [go_sem]) Try.underlying36 rfl (by rw [qArr_size ua va ma]; kernel_rfl)) ?_
      simp only [Act.put, List.setIfInBounds_toArray, List.set_cons_zero, List.set_cons_succ]
      refine wpU_val 4 hKS rfl (by kernel_rfl) (by kernel_rfl) (by kernel_rfl) rfl (fun _ _ _ _ h => h) (.agg (qArr ub vb mb)) (fun w' h => run_load_box rfl h.2.2.2.1 (by simp [go_sem]) Try.underlying36 rfl (by rw [qArr_size ub vb mb]; kernel_rfl)) ?_
      simp only [Act.put, List.setIfInBounds_toArray, List.set_cons_zero, List.set_cons_succ]
      refine wpU_one 2 rfl (by kernel_rfl) rfl ?_
      intro v11 bv11 sS
      replace hA0 := hA0.after bv11
      replace hA1 := hA1.after bv11
      replace hP0 := hP0.after bv11
      replace hU0 := hU0.after bv11
      replace hP1 := hP1.after bv11
      replace hU1 := hU1.after bv11
      replace hB := hB.trans (bv11.mono hS)
      replace hS := Nat.le_trans hS bv11.size
      clear bv11
      refine wp_callR 15 #[.agg (pArr xa ya za ta), .agg (pArr xb yb zb tb)] (by simp [go_sem]) _ (add_is xa ya za ta xb yb zb tb _ _ Ha.out Hb.out _) ?_
      rintro e v12 ⟨xp1, yp1, zp1, tp1, rfl, hp1, bv12⟩
      refine ⟨_, rfl, hKS _ _ sS bv12, ?_⟩
      replace sS := hKS _ _ sS bv12
      simp only [Act.put, List.setIfInBounds_toArray, List.set_cons_zero, List.set_cons_succ]
      replace hA0 := hA0.after bv12
      replace hA1 := hA1.after bv12
      replace hP0 := hP0.after bv12
      replace hU0 := hU0.after bv12
      replace hP1 := hP1.after bv12
      replace hU1 := hU1.after bv12
      replace hB := hB.trans (bv12.mono hS)
      replace hS := Nat.le_trans hS bv12.size
      clear bv12
      have Hp1 := Lib.hid hp1
      clear hp1
      refine wpU_one 5 rfl (by kernel_rfl) rfl ?_
      intro v13 bv13 sS
      replace hA0 := hA0.after bv13
      replace hA1 := hA1.after bv13
      replace hP0 := hP0.after bv13
      replace hU0 := hU0.after bv13
      replace hP1 := hP1.after bv13
      replace hU1 := hU1.after bv13
      replace hB := hB.trans (bv13.mono hS)
      replace hS := Nat.le_trans hS bv13.size
      clear bv13
      refine wp_callR 16 #[.agg (qArr ua va ma), .agg (qArr ub vb mb)] (by simp [go_sem]) _ (refAdd_is ua va ma ub vb mb _ _ Ga.out Gb.out _) ?_
      rintro e v14 ⟨up2, vp2, mp2, rfl, hp2, bv14⟩
      refine ⟨_, rfl, hKS _ _ sS bv14, ?_⟩
      replace sS := hKS _ _ sS bv14
      simp only [Act.put, List.setIfInBounds_toArray, List.set_cons_zero, List.set_cons_succ]
      replace hA0 := hA0.after bv14
      replace hA1 := hA1.after bv14
      replace hP0 := hP0.after bv14
      replace hU0 := hU0.after bv14
      replace hP1 := hP1.after bv14
      replace hU1 := hU1.after bv14
      replace hB := hB.trans (bv14.mono hS)
      replace hS := Nat.le_trans hS bv14.size
      clear bv14
      have Gp2 := Lib.hid hp2
      clear hp2
      have S6 := Lib.hid (same7_is xp1 yp1 zp1 tp1 up2 vp2 mp2 _ Hp1.out Gp2.out)
      refine wpU_call 6 hKS rfl (by kernel_rfl) (by kernel_rfl) (by kernel_rfl) rfl (fun _ _ _ _ h => h) 13 #[.agg (pArr xp1 yp1 zp1 tp1), .agg (qArr up2 vp2 mp2)] (fun w => by simp [go_sem]) _ (S6.out) ?_
      simp only [Act.put, List.setIfInBounds_toArray, List.set_cons_zero, List.set_cons_succ]
      refine wpU_val 7 hKS rfl (by kernel_rfl) (by kernel_rfl) (by kernel_rfl) rfl (fun _ _ _ _ h => h) (.bool true) (fun w' h => by simp [go_sem]) ?_
      simp only [Act.put, List.setIfInBounds_toArray, List.set_cons_zero, List.set_cons_succ]
      refine wpU_val 8 hKS rfl (by kernel_rfl) (by kernel_rfl) (by kernel_rfl) rfl (fun _ _ _ _ h => h) (.agg (pArr xa ya za ta)) (fun w' h => run_load_box rfl h.1 (by simp [go_sem]) Try.underlying29 rfl (by rw [pArr_size xa ya za ta]; kernel_rfl)) ?_
      simp only [Act.put, List.setIfInBounds_toArray, List.set_cons_zero, List.set_cons_succ]
      refine wpU_val 10 hKS rfl (by kernel_rfl) (by kernel_rfl) (by kernel_rfl) rfl (fun _ _ _ _ h => h) (.agg (qArr ua va ma)) (fun w' h => run_load_box rfl h.2.1 (by simp [go_sem]) Try.underlying36 rfl (by rw [qArr_size ua va ma]; kernel_rfl)) ?_
      simp only [Act.put, List.setIfInBounds_toArray, List.set_cons_zero, List.set_cons_succ]
      refine wpU_one 9 rfl (by kernel_rfl) rfl ?_
      intro v15 bv15 sS
      replace hA0 := hA0.after bv15
      replace hA1 := hA1.after bv15
      replace hP0 := hP0.after bv15
      replace hU0 := hU0.after bv15
      replace hP1 := hP1.after bv15
      replace hU1 := hU1.after bv15
      replace hB := hB.trans (bv15.mono hS)
      replace hS := Nat.le_trans hS bv15.size
      clear bv15
      refine wp_callR 17 #[.agg (pArr xa ya za ta)] (by simp [go_sem]) _ (neg_is xa ya za ta _ Ha.out _) ?_
      rintro e v16 ⟨xp3, yp3, zp3, tp3, rfl, hp3, bv16⟩
      refine ⟨_, rfl, hKS _ _ sS bv16, ?_⟩
      replace sS := hKS _ _ sS bv16
      simp only [Act.put, List.setIfInBounds_toArray, List.set_cons_zero, List.set_cons_succ]
      replace hA0 := hA0.after bv16
      replace hA1 := hA1.after bv16
      replace hP0 := hP0.after bv16
      replace hU0 := hU0.after bv16
      replace hP1 := hP1.after bv16
      replace hU1 := hU1.after bv16
      replace hB := hB.trans (bv16.mono hS)
      replace hS := Nat.le_trans hS bv16.size
      clear bv16
      have Hp3 := Lib.hid hp3
      clear hp3
      refine wpU_one 11 rfl (by kernel_rfl) rfl ?_
      intro v17 bv17 sS
      replace hA0 := hA0.after bv17
      replace hA1 := hA1.after bv17
      replace hP0 := hP0.after bv17
      replace hU0 := hU0.after bv17
      replace hP1 := hP1.after bv17
      replace hU1 := hU1.after bv17
      replace hB := hB.trans (bv17.mono hS)
      replace hS := Nat.le_trans hS bv17.size
      clear bv17
      refine wp_callR 18 #[.agg (qArr ua va ma)] (by simp [go_sem]) _ (refNeg_is ua va ma _ Ga.out _) ?_
      rintro e v18 ⟨up4, vp4, mp4, rfl, hp4, bv18⟩
      refine ⟨_, rfl, hKS _ _ sS bv18, ?_⟩
      replace sS := hKS _ _ sS bv18
      simp only [Act.put, List.setIfInBounds_toArray, List.set_cons_zero, List.set_cons_succ]
      replace hA0 := hA0.after bv18
      replace hA1 := hA1.after bv18
      replace hP0 := hP0.after bv18
      replace hU0 := hU0.after bv18
      replace hP1 := hP1.after bv18
      replace hU1 := hU1.after bv18
      replace hB := hB.trans (bv18.mono hS)
      replace hS := Nat.le_trans hS bv18.size
      clear bv18
      have Gp4 := Lib.hid hp4
      clear hp4
      have S12 := Lib.hid (same7_is xp3 yp3 zp3 tp3 up4 vp4 mp4 _ Hp3.out Gp4.out)
      refine wpU_call 12 hKS rfl (by kernel_rfl) (by kernel_rfl) (by kernel_rfl) rfl (fun _ _ _ _ h => h) 13 #[.agg (pArr xp3 yp3 zp3 tp3), .agg (qArr up4 vp4 mp4)] (fun w => by simp [go_sem]) _ (S12.out) ?_
      simp only [Act.put, List.setIfInBounds_toArray, List.set_cons_zero, List.set_cons_succ]
      refine wpU_val 13 hKS rfl (by kernel_rfl) (by kernel_rfl) (by kernel_rfl) rfl (fun _ _ _ _ h => h) (.bool true) (fun w' h => by simp [go_sem]) ?_
      simp only [Act.put, List.setIfInBounds_toArray, List.set_cons_zero, List.set_cons_succ]
      refine wpU_val 14 hKS rfl (by kernel_rfl) (by kernel_rfl) (by kernel_rfl) rfl (fun _ _ _ _ h => h) (.bool true) (fun w' h => by simp [go_sem]) ?_
      simp only [Act.put, List.setIfInBounds_toArray, List.set_cons_zero, List.set_cons_succ]
      refine wpU_val 15 hKS rfl (by kernel_rfl) (by kernel_rfl) (by kernel_rfl) rfl (fun _ _ _ _ h => h) (.agg (pArr xa ya za ta)) (fun w' h => run_load_box rfl h.1 (by simp [go_sem]) Try.underlying29 rfl (by rw [pArr_size xa ya za ta]; kernel_rfl)) ?_
      simp only [Act.put, List.setIfInBounds_toArray, List.set_cons_zero, List.set_cons_succ]
      refine wpU_val 16 hKS rfl (by kernel_rfl) (by kernel_rfl) (by kernel_rfl) rfl (fun _ _ _ _ h => h) (.agg (pArr xa ya za ta)) (fun w' h => run_load_box rfl h.1 (by simp [go_sem]) Try.underlying29 rfl (by rw [pArr_size xa ya za ta]; kernel_rfl)) ?_
      simp only [Act.put, List.setIfInBounds_toArray, List.set_cons_zero, List.set_cons_succ]
      refine wpU_val 18 hKS rfl (by kernel_rfl) (by kernel_rfl) (by kernel_rfl) rfl (fun _ _ _ _ h => h) (.agg (qArr ua va ma)) (fun w' h => run_load_box rfl h.2.1 (by simp [go_sem]) Try.underlying36 rfl (by rw [qArr_size ua va ma]; kernel_rfl)) ?_
      simp only [Act.put, List.setIfInBounds_toArray, List.set_cons_zero, List.set_cons_succ]
      refine wpU_val 19 hKS rfl (by kernel_rfl) (by kernel_rfl) (by kernel_rfl) rfl (fun _ _ _ _ h => h) (.agg (qArr ua va ma)) (fun w' h => run_load_box rfl h.2.1 (by simp [go_sem]) Try.underlying36 rfl (by rw [qArr_size ua va ma]; kernel_rfl)) ?_
      simp only [Act.put, List.setIfInBounds_toArray, List.set_cons_zero, List.set_cons_succ]
      refine wpU_one 17 rfl (by kernel_rfl) rfl ?_
      intro v19 bv19 sS
      replace hA0 := hA0.after bv19
      replace hA1 := hA1.after bv19
      replace hP0 := hP0.after bv19
      replace hU0 := hU0.after bv19
      replace hP1 := hP1.after bv19
      replace hU1 := hU1.after bv19
      replace hB := hB.trans (bv19.mono hS)
      replace hS := Nat.le_trans hS bv19.size
      clear bv19
      refine wp_callR 15 #[.agg (pArr xa ya za ta), .agg (pArr xa ya za ta)] (by simp [go_sem]) _ (add_is xa ya za ta xa ya za ta _ _ Ha.out Ha.out _) ?_
      rintro e v20 ⟨xp5, yp5, zp5, tp5, rfl, hp5, bv20⟩
      refine ⟨_, rfl, hKS _ _ sS bv20, ?_⟩
      replace sS := hKS _ _ sS bv20
      simp only [Act.put, List.setIfInBounds_toArray, List.set_cons_zero, List.set_cons_succ]
      replace hA0 := hA0.after bv20
      replace hA1 := hA1.after bv20
      replace hP0 := hP0.after bv20
      replace hU0 := hU0.after bv20
      replace hP1 := hP1.after bv20
      replace hU1 := hU1.after bv20
      replace hB := hB.trans (bv20.mono hS)
      replace hS := Nat.le_trans hS bv20.size
      clear bv20
      have Hp5 := Lib.hid hp5
      clear hp5
      refine wpU_one 20 rfl (by kernel_rfl) rfl ?_
      intro v21 bv21 sS
      replace hA0 := hA0.after bv21
      replace hA1 := hA1.after bv21
      replace hP0 := hP0.after bv21
      replace hU0 := hU0.after bv21
      replace hP1 := hP1.after bv21
      replace hU1 := hU1.after bv21
      replace hB := hB.trans (bv21.mono hS)
      replace hS := Nat.le_trans hS bv21.size
      clear bv21
      refine wp_callR 16 #[.agg (qArr ua va ma), .agg (qArr ua va ma)] (by simp [go_sem]) _ (refAdd_is ua va ma ua va ma _ _ Ga.out Ga.out _) ?_
      rintro e v22 ⟨up6, vp6, mp6, rfl, hp6, bv22⟩
      refine ⟨_, rfl, hKS _ _ sS bv22, ?_⟩
      replace sS := hKS _ _ sS bv22
      simp only [Act.put, List.setIfInBounds_toArray, List.set_cons_zero, List.set_cons_succ]
      replace hA0 := hA0.after bv22
      replace hA1 := hA1.after bv22
      replace hP0 := hP0.after bv22
      replace hU0 := hU0.after bv22
      replace hP1 := hP1.after bv22
      replace hU1 := hU1.after bv22
      replace hB := hB.trans (bv22.mono hS)
      replace hS := Nat.le_trans hS bv22.size
      clear bv22
      have Gp6 := Lib.hid hp6
      clear hp6
      have S21 := Lib.hid (same7_is xp5 yp5 zp5 tp5 up6 vp6 mp6 _ Hp5.out Gp6.out)
      refine wpU_call 21 hKS rfl (by kernel_rfl) (by kernel_rfl) (by kernel_rfl) rfl (fun _ _ _ _ h => h) 13 #[.agg (pArr xp5 yp5 zp5 tp5), .agg (qArr up6 vp6 mp6)] (fun w => by simp [go_sem]) _ (S21.out) ?_
      simp only [Act.put, List.setIfInBounds_toArray, List.set_cons_zero, List.set_cons_succ]
      refine wpU_val 22 hKS rfl (by kernel_rfl) (by kernel_rfl) (by kernel_rfl) rfl (fun _ _ _ _ h => h) (.bool true) (fun w' h => by simp [go_sem]) ?_
      simp only [Act.put, List.setIfInBounds_toArray, List.set_cons_zero, List.set_cons_succ]
      refine wpU_val 23 hKS rfl (by kernel_rfl) (by kernel_rfl) (by kernel_rfl) rfl (fun _ _ _ _ h => h) (.bool true) (fun w' h => by simp [go_sem]) ?_
      simp only [Act.put, List.setIfInBounds_toArray, List.set_cons_zero, List.set_cons_succ]
      refine wpU_val 24 hKS rfl (by kernel_rfl) (by kernel_rfl) (by kernel_rfl) rfl (fun _ _ _ _ h => h) (.agg (pArr xa ya za ta)) (fun w' h => run_load_box rfl h.1 (by simp [go_sem]) Try.underlying29 rfl (by rw [pArr_size xa ya za ta]; kernel_rfl)) ?_
      simp only [Act.put, List.setIfInBounds_toArray, List.set_cons_zero, List.set_cons_succ]
      refine wpU_val 25 hKS rfl (by kernel_rfl) (by kernel_rfl) (by kernel_rfl) rfl (fun _ _ _ _ h => h) (.agg (pArr xb yb zb tb)) (fun w' h => run_load_box rfl h.2.2.1 (by simp [go_sem]) Try.underlying29 rfl (by rw [pArr_size xb yb zb tb]; kernel_rfl)) ?_
      simp only [Act.put, List.setIfInBounds_toArray, List.set_cons_zero, List.set_cons_succ]
      refine wpU_val 27 hKS rfl (by kernel_rfl) (by kernel_rfl) (by kernel_rfl) rfl (fun _ _ _ _ h => h) (.agg ((bts n0))) (fun w' h => run_load_box rfl h.2.2.2.2.1 (by simp [go_sem]) Try.underlying39 rfl (by rw [bts_size]; kernel_rfl)) ?_
      simp only [Act.put, List.setIfInBounds_toArray, List.set_cons_zero, List.set_cons_succ]
      refine wpU_val 28 hKS rfl (by kernel_rfl) (by kernel_rfl) (by kernel_rfl) rfl (fun _ _ _ _ h => h) (.agg ((bts n1))) (fun w' h => run_load_box rfl h.2.2.2.2.2 (by simp [go_sem]) Try.underlying39 rfl (by rw [bts_size]; kernel_rfl)) ?_
      simp only [Act.put, List.setIfInBounds_toArray, List.set_cons_zero, List.set_cons_succ]
      have S26 := Lib.hid (same_is xa ya za ta xb yb zb tb _ _ Ha.out Hb.out)
      rw [HSE2.out] at S26
      refine wpU_call 26 hKS rfl (by kernel_rfl) (by kernel_rfl) (by kernel_rfl) rfl (fun _ _ _ _ h => h) 19 #[.agg (pArr xa ya za ta), .agg (pArr xb yb zb tb)] (fun w => by simp [go_sem]) _ (S26.out) ?_
      simp only [Act.put, List.setIfInBounds_toArray, List.set_cons_zero, List.set_cons_succ]
      refine wpU_val 29 hKS rfl (by kernel_rfl) (by kernel_rfl) (by kernel_rfl) rfl (fun _ _ _ _ h => h) (.bool (n0 == n1)) (fun w' h => by simp [go_sem, HEQ.out]) ?_
      simp only [Act.put, List.setIfInBounds_toArray, List.set_cons_zero, List.set_cons_succ]
      refine wpU_val 30 hKS rfl (by kernel_rfl) (by kernel_rfl) (by kernel_rfl) rfl (fun _ _ _ _ h => h) (.bool true) (fun w' h => by simp [go_sem]) ?_
      simp only [Act.put, List.setIfInBounds_toArray, List.set_cons_zero, List.set_cons_succ]
      refine wpU_val 31 hKS rfl (by kernel_rfl) (by kernel_rfl) (by kernel_rfl) rfl (fun _ _ _ _ h => h) (.bool true) (fun w' h => by simp [go_sem]) ?_
      simp only [Act.put, List.setIfInBounds_toArray, List.set_cons_zero, List.set_cons_succ]
      refine wpU_val 32 hKS rfl (by kernel_rfl) (by kernel_rfl) (by kernel_rfl) rfl (fun _ _ _ _ h => h) (.bool true) (fun w' h => by simp [go_sem]) ?_
      simp only [Act.put, List.setIfInBounds_toArray, List.set_cons_zero, List.set_cons_succ]
      refine wpU_call 33 hKS rfl (by kernel_rfl) (by kernel_rfl) (by kernel_rfl) rfl (fun _ _ _ _ h => h) 9 #[] (fun w => by simp [go_sem]) _ (awake7_any) ?_
      simp only [Act.put, List.setIfInBounds_toArray, List.set_cons_zero, List.set_cons_succ]
      refine wpU_val 34 hKS rfl (by kernel_rfl) (by kernel_rfl) (by kernel_rfl) rfl (fun _ _ _ _ h => h) (.bool true) (fun w' h => by simp [go_sem]) ?_
      simp only [Act.put, List.setIfInBounds_toArray, List.set_cons_zero, List.set_cons_succ]
      refine wpU_val 35 hKS rfl (by kernel_rfl) (by kernel_rfl) (by kernel_rfl) rfl (fun _ _ _ _ h => h) (.bool true) (fun w' h => by simp [go_sem]) ?_
      simp only [Act.put, List.setIfInBounds_toArray, List.set_cons_zero, List.set_cons_succ]
      refine wpU_done (by kernel_rfl) ?_
      intro v23 bv23 sS
      clear hKS sS
      replace hA0 := hA0.after bv23
      replace hA1 := hA1.after bv23
      replace hP0 := hP0.after bv23
      replace hU0 := hU0.after bv23
      replace hP1 := hP1.after bv23
      replace hU1 := hU1.after bv23
      replace hB := hB.trans (bv23.mono hS)
      replace hS := Nat.le_trans hS bv23.size
      clear bv23
      clear hA0 hA1 hP0 hU0 hP1 hU1
      clear n_A0_A1 n_A1_A0 n_A0_P0 n_P0_A0 n_A1_P0 n_P0_A1 n_A0_U0 n_U0_A0 n_A1_U0 n_U0_A1 n_P0_U0 n_U0_P0 n_A0_P1 n_P1_A0 n_A1_P1 n_P1_A1 n_P0_P1 n_P1_P0 n_U0_P1 n_P1_U0 n_A0_U1 n_U1_A0 n_A1_U1 n_U1_A1 n_P0_U1 n_U1_P0 n_U0_U1 n_U1_U0 n_P1_U1 n_U1_P1
      go_wp2_with fail
      go_ret
      exact ⟨rfl, hB⟩
set_option linter.unusedSimpArgs false in
set_option maxRecDepth 100000 in
set_option maxHeartbeats 20000000 in
theorem PointLaws_walk (l0 l1 l2 : List UInt8) (w : World) (w0 : l0.length = 32) (w1 : l1.length = 32) (w2 : l2.length = 32) : Calls Try.prog 5 #[.agg (lCells l0).toArray, .agg (lCells l1).toArray, .agg (lCells l2).toArray] w fun e w' => e = .returned (.bool true) ∧ Below w.heap.size w w' := by
  obtain ⟨r0, q0, hr0, hq0, hl0⟩ : ∃ r q, r < 2 ^ 255 ∧ q < 2 ∧ l0 = leBytes (r + 2 ^ 255 * q) 32 := split_bytes l0 w0
  subst hl0
  rw [show (lCells (leBytes (r0 + 2 ^ 255 * q0) 32)).toArray = bts (r0 + 2 ^ 255 * q0) from rfl]
  have HT0 := Lib.hid (two_is r0 q0 hr0 hq0)
  unfold RetTwo at HT0
  obtain ⟨r1, q1, hr1, hq1, hl1⟩ : ∃ r q, r < 2 ^ 255 ∧ q < 2 ∧ l1 = leBytes (r + 2 ^ 255 * q) 32 := split_bytes l1 w1
  subst hl1
  rw [show (lCells (leBytes (r1 + 2 ^ 255 * q1) 32)).toArray = bts (r1 + 2 ^ 255 * q1) from rfl]
  have HT1 := Lib.hid (two_is r1 q1 hr1 hq1)
  unfold RetTwo at HT1
  obtain ⟨r2, q2, hr2, hq2, hl2⟩ : ∃ r q, r < 2 ^ 255 ∧ q < 2 ∧ l2 = leBytes (r + 2 ^ 255 * q) 32 := split_bytes l2 w2
  subst hl2
  rw [show (lCells (leBytes (r2 + 2 ^ 255 * q2) 32)).toArray = bts (r2 + 2 ^ 255 * q2) from rfl]
  have HT2 := Lib.hid (two_is r2 q2 hr2 hq2)
  unfold RetTwo at HT2
  have hN0 := got_bytes r0 q0 hq0
  generalize (PP.mk (getX r0 q0) r0) = a0 at *
  generalize getOk r0 q0 = oka at *
  generalize r0 + 2 ^ 255 * q0 = n0 at *
  clear hr0 hq0 hN0 w0
  have hN1 := got_bytes r1 q1 hq1
  generalize (PP.mk (getX r1 q1) r1) = a1 at *
  generalize getOk r1 q1 = okb at *
  generalize r1 + 2 ^ 255 * q1 = n1 at *
  clear hr1 hq1 hN1 w1
  have hN2 := got_bytes r2 q2 hq2
  generalize (PP.mk (getX r2 q2) r2) = a2 at *
  generalize getOk r2 q2 = okc at *
  generalize r2 + 2 ^ 255 * q2 = n2 at *
  clear hr2 hq2 hN2 w2
  go_enter Try.func5, Try.ntmps5
  go_upto_region 1 with fail
  have hA0 : Box (((w.alloc (.cells (bts n0) 39)).alloc (.cells (bts n1) 39)).alloc (.cells (bts n2) 39)) w.heap.size 39 (bts n0) := (((Box.new w 39 (bts n0)).alloc (.cells (bts n1) 39)).alloc (.cells (bts n2) 39))
  have lA0 : w.heap.size ≤ w.heap.size := by omega
  have hA1 : Box (((w.alloc (.cells (bts n0) 39)).alloc (.cells (bts n1) 39)).alloc (.cells (bts n2) 39)) (w.heap.size + 1) 39 (bts n1) := by
    have := ((Box.new (w.alloc (.cells (bts n0) 39)) 39 (bts n1)).alloc (.cells (bts n2) 39))
    simp only [World.size_alloc] at this
    exact this
  have lA1 : w.heap.size ≤ (w.heap.size + 1) := by omega
  have n_A0_A1 : w.heap.size ≠ (w.heap.size + 1) := by omega
  have n_A1_A0 : (w.heap.size + 1) ≠ w.heap.size := by omega
  have hA2 : Box (((w.alloc (.cells (bts n0) 39)).alloc (.cells (bts n1) 39)).alloc (.cells (bts n2) 39)) (w.heap.size + 2) 39 (bts n2) := by
    have := (Box.new ((w.alloc (.cells (bts n0) 39)).alloc (.cells (bts n1) 39)) 39 (bts n2))
    simp only [World.size_alloc, Nat.add_assoc, Nat.reduceAdd] at this
    exact this
  have lA2 : w.heap.size ≤ (w.heap.size + 2) := by omega
  have n_A0_A2 : w.heap.size ≠ (w.heap.size + 2) := by omega
  have n_A2_A0 : (w.heap.size + 2) ≠ w.heap.size := by omega
  have n_A1_A2 : (w.heap.size + 1) ≠ (w.heap.size + 2) := by omega
  have n_A2_A1 : (w.heap.size + 2) ≠ (w.heap.size + 1) := by omega
  have hB : Below w.heap.size w (((w.alloc (.cells (bts n0) 39)).alloc (.cells (bts n1) 39)).alloc (.cells (bts n2) 39)) := ((((Below.refl w.heap.size w).alloc (by simp; try omega) (.cells (bts n0) 39)).alloc (by simp; try omega) (.cells (bts n1) 39)).alloc (by simp; try omega) (.cells (bts n2) 39))
  have hS := hB.size
  change Code.wp _ _ _ _ (((w.alloc (.cells (bts n0) 39)).alloc (.cells (bts n1) 39)).alloc (.cells (bts n2) 39))
  generalize (((w.alloc (.cells (bts n0) 39)).alloc (.cells (bts n1) 39)).alloc (.cells (bts n2) 39)) = v0 at *
  go_step
  refine wpList_load_box rfl 39 _ rfl hA0 (by rfl) Try.underlying39 rfl (by rw [bts_size]; kernel_rfl) ?_
  simp only [Act.put, List.setIfInBounds_toArray, List.set_cons_zero, List.set_cons_succ]
  refine wpList_enterR rfl 14 #[.agg (bts n0)] (by simp [go_sem]) _ (HT0.out _) ?_
  rintro e v1 ⟨xa, ya, za, ta, ua, va, ma, rfl, hpa, bv1⟩
  refine ⟨_, rfl, ?_⟩
  simp only [Act.put, List.setIfInBounds_toArray, List.set_cons_zero, List.set_cons_succ]
  replace hA0 := hA0.after bv1
  replace hA1 := hA1.after bv1
  replace hA2 := hA2.after bv1
  replace hB := hB.trans (bv1.mono hS)
  replace hS := Nat.le_trans hS bv1.size
  clear bv1
  have HPa := Lib.hid hpa
  clear hpa
  refine wpList_value rfl (.tuple #[.agg (pArr xa ya za ta), .agg (qArr ua va ma), .bool oka]) (by simp [go_sem]) ?_
  simp only [Act.put, List.setIfInBounds_toArray, List.set_cons_zero, List.set_cons_succ]
  refine wpList_value rfl (.agg (pArr xa ya za ta)) (by simp [go_sem]) ?_
  simp only [Act.put, List.setIfInBounds_toArray, List.set_cons_zero, List.set_cons_succ]
  refine wpList_value rfl (.agg (qArr ua va ma)) (by simp [go_sem]) ?_
  simp only [Act.put, List.setIfInBounds_toArray, List.set_cons_zero, List.set_cons_succ]
  refine wpList_value rfl (.bool oka) (by simp [go_sem]) ?_
  simp only [Act.put, List.setIfInBounds_toArray, List.set_cons_zero, List.set_cons_succ]
  refine wpList_new rfl 29 rfl #[.int .u64 0, .int .u64 0, .int .u64 0, .int .u64 0, .int .u64 0, .int .u64 0, .int .u64 0, .int .u64 0, .int .u64 0, .int .u64 0, .int .u64 0, .int .u64 0, .int .u64 0, .int .u64 0, .int .u64 0, .int .u64 0, .int .u64 0, .int .u64 0, .int .u64 0, .int .u64 0] (by intro w; simp [go_sem]) ?_
  intro gP0 v2 hP0 lP0 bv2
  simp only [Act.put, List.setIfInBounds_toArray, List.set_cons_zero, List.set_cons_succ]
  have n_A0_P0 := hA0.before lP0
  have n_P0_A0 := hA0.behind lP0
  have n_A1_P0 := hA1.before lP0
  have n_P0_A1 := hA1.behind lP0
  have n_A2_P0 := hA2.before lP0
  have n_P0_A2 := hA2.behind lP0
  replace lP0 := Nat.le_trans hS lP0
  replace hA0 := hA0.after bv2
  replace hA1 := hA1.after bv2
  replace hA2 := hA2.after bv2
  replace hB := hB.trans (bv2.mono hS)
  replace hS := Nat.le_trans hS bv2.size
  clear bv2
  refine wpList_new rfl 36 rfl (Array.replicate 48 (Value.int .u64 0)) (by intro w; simp [go_sem]; rfl) ?_
  intro gU0 v3 hU0 lU0 bv3
  simp only [Act.put, List.setIfInBounds_toArray, List.set_cons_zero, List.set_cons_succ]
  have n_A0_U0 := hA0.before lU0
  have n_U0_A0 := hA0.behind lU0
  have n_A1_U0 := hA1.before lU0
  have n_U0_A1 := hA1.behind lU0
  have n_A2_U0 := hA2.before lU0
  have n_U0_A2 := hA2.behind lU0
  have n_P0_U0 := hP0.before lU0
  have n_U0_P0 := hP0.behind lU0
  replace lU0 := Nat.le_trans hS lU0
  replace hA0 := hA0.after bv3
  replace hA1 := hA1.after bv3
  replace hA2 := hA2.after bv3
  replace hP0 := hP0.after bv3
  replace hB := hB.trans (bv3.mono hS)
  replace hS := Nat.le_trans hS bv3.size
  clear bv3
  refine wpList_store_box (cells := pArr xa ya za ta) rfl 29 (.tmp 7) (.tmp 20) rfl hP0 (by rfl) (by rfl) (by rw [pArr_size xa ya za ta]; rfl) (by rw [pArr_size xa ya za ta]; kernel_rfl) (pArr_one _ _ _ _) ?_
  intro v4 hP0_ stv4
  simp only [Act.put]
  replace hA0 := stv4.box hA0 n_A0_P0
  replace hA1 := stv4.box hA1 n_A1_P0
  replace hA2 := stv4.box hA2 n_A2_P0
  replace hU0 := stv4.box hU0 n_U0_P0
  replace hB := stv4.below w.heap.size w lP0 hB
  replace hS := Nat.le_trans hS (Nat.le_of_eq stv4.size.symm)
  clear hP0 stv4
  have hP0 := hP0_
  clear hP0_
  refine wpList_store_box (cells := qArr ua va ma) rfl 36 (.tmp 8) (.tmp 21) rfl hU0 (by rfl) (by rfl) (by rw [qArr_size ua va ma]; rfl) (by rw [qArr_size ua va ma]; kernel_rfl) (qArr_one _ _ _) ?_
  intro v5 hU0_ stv5
  simp only [Act.put]
  replace hA0 := stv5.box hA0 n_A0_U0
  replace hA1 := stv5.box hA1 n_A1_U0
  replace hA2 := stv5.box hA2 n_A2_U0
  replace hP0 := stv5.box hP0 n_P0_U0
  replace hB := stv5.below w.heap.size w lU0 hB
  replace hS := Nat.le_trans hS (Nat.le_of_eq stv5.size.symm)
  clear hU0 stv5
  have hU0 := hU0_
  clear hU0_
  refine wpList_value rfl (.bool oka) (by simp [go_sem]) ?_
  simp only [Act.put, List.setIfInBounds_toArray, List.set_cons_zero, List.set_cons_succ]
  clear hU0
  go_upto_region 2 with fail
  go_step
  refine wpList_load_box rfl 39 _ rfl hA1 (by rfl) Try.underlying39 rfl (by rw [bts_size]; kernel_rfl) ?_
  simp only [Act.put, List.setIfInBounds_toArray, List.set_cons_zero, List.set_cons_succ]
  refine wpList_enterR rfl 14 #[.agg (bts n1)] (by simp [go_sem]) _ (HT1.out _) ?_
  rintro e v6 ⟨xb, yb, zb, tb, ub, vb, mb, rfl, hpb, bv6⟩
  refine ⟨_, rfl, ?_⟩
  simp only [Act.put, List.setIfInBounds_toArray, List.set_cons_zero, List.set_cons_succ]
  replace hA0 := hA0.after bv6
  replace hA1 := hA1.after bv6
  replace hA2 := hA2.after bv6
  replace hP0 := hP0.after bv6
  replace hB := hB.trans (bv6.mono hS)
  replace hS := Nat.le_trans hS bv6.size
  clear bv6
  have HPb := Lib.hid hpb
  clear hpb
  refine wpList_value rfl (.tuple #[.agg (pArr xb yb zb tb), .agg (qArr ub vb mb), .bool okb]) (by simp [go_sem]) ?_
  simp only [Act.put, List.setIfInBounds_toArray, List.set_cons_zero, List.set_cons_succ]
  refine wpList_value rfl (.agg (pArr xb yb zb tb)) (by simp [go_sem]) ?_
  simp only [Act.put, List.setIfInBounds_toArray, List.set_cons_zero, List.set_cons_succ]
  refine wpList_value rfl (.agg (qArr ub vb mb)) (by simp [go_sem]) ?_
  simp only [Act.put, List.setIfInBounds_toArray, List.set_cons_zero, List.set_cons_succ]
  refine wpList_value rfl (.bool okb) (by simp [go_sem]) ?_
  simp only [Act.put, List.setIfInBounds_toArray, List.set_cons_zero, List.set_cons_succ]
  refine wpList_new rfl 29 rfl #[.int .u64 0, .int .u64 0, .int .u64 0, .int .u64 0, .int .u64 0, .int .u64 0, .int .u64 0, .int .u64 0, .int .u64 0, .int .u64 0, .int .u64 0, .int .u64 0, .int .u64 0, .int .u64 0, .int .u64 0, .int .u64 0, .int .u64 0, .int .u64 0, .int .u64 0, .int .u64 0] (by intro w; simp [go_sem]) ?_
  intro gP1 v7 hP1 lP1 bv7
  simp only [Act.put, List.setIfInBounds_toArray, List.set_cons_zero, List.set_cons_succ]
  have n_A0_P1 := hA0.before lP1
  have n_P1_A0 := hA0.behind lP1
  have n_A1_P1 := hA1.before lP1
  have n_P1_A1 := hA1.behind lP1
  have n_A2_P1 := hA2.before lP1
  have n_P1_A2 := hA2.behind lP1
  have n_P0_P1 := hP0.before lP1
  have n_P1_P0 := hP0.behind lP1
  replace lP1 := Nat.le_trans hS lP1
  replace hA0 := hA0.after bv7
  replace hA1 := hA1.after bv7
  replace hA2 := hA2.after bv7
  replace hP0 := hP0.after bv7
  replace hB := hB.trans (bv7.mono hS)
  replace hS := Nat.le_trans hS bv7.size
  clear bv7
  refine wpList_new rfl 36 rfl (Array.replicate 48 (Value.int .u64 0)) (by intro w; simp [go_sem]; rfl) ?_
  intro gU1 v8 hU1 lU1 bv8
  simp only [Act.put, List.setIfInBounds_toArray, List.set_cons_zero, List.set_cons_succ]
  have n_A0_U1 := hA0.before lU1
  have n_U1_A0 := hA0.behind lU1
  have n_A1_U1 := hA1.before lU1
  have n_U1_A1 := hA1.behind lU1
  have n_A2_U1 := hA2.before lU1
  have n_U1_A2 := hA2.behind lU1
  have n_P0_U1 := hP0.before lU1
  have n_U1_P0 := hP0.behind lU1
  have n_P1_U1 := hP1.before lU1
  have n_U1_P1 := hP1.behind lU1
  replace lU1 := Nat.le_trans hS lU1
  replace hA0 := hA0.after bv8
  replace hA1 := hA1.after bv8
  replace hA2 := hA2.after bv8
  replace hP0 := hP0.after bv8
  replace hP1 := hP1.after bv8
  replace hB := hB.trans (bv8.mono hS)
  replace hS := Nat.le_trans hS bv8.size
  clear bv8
  refine wpList_store_box (cells := pArr xb yb zb tb) rfl 29 (.tmp 10) (.tmp 26) rfl hP1 (by rfl) (by rfl) (by rw [pArr_size xb yb zb tb]; rfl) (by rw [pArr_size xb yb zb tb]; kernel_rfl) (pArr_one _ _ _ _) ?_
  intro v9 hP1_ stv9
  simp only [Act.put]
  replace hA0 := stv9.box hA0 n_A0_P1
  replace hA1 := stv9.box hA1 n_A1_P1
  replace hA2 := stv9.box hA2 n_A2_P1
  replace hP0 := stv9.box hP0 n_P0_P1
  replace hU1 := stv9.box hU1 n_U1_P1
  replace hB := stv9.below w.heap.size w lP1 hB
  replace hS := Nat.le_trans hS (Nat.le_of_eq stv9.size.symm)
  clear hP1 stv9
  have hP1 := hP1_
  clear hP1_
  refine wpList_store_box (cells := qArr ub vb mb) rfl 36 (.tmp 11) (.tmp 27) rfl hU1 (by rfl) (by rfl) (by rw [qArr_size ub vb mb]; rfl) (by rw [qArr_size ub vb mb]; kernel_rfl) (qArr_one _ _ _) ?_
  intro v10 hU1_ stv10
  simp only [Act.put]
  replace hA0 := stv10.box hA0 n_A0_U1
  replace hA1 := stv10.box hA1 n_A1_U1
  replace hA2 := stv10.box hA2 n_A2_U1
  replace hP0 := stv10.box hP0 n_P0_U1
  replace hP1 := stv10.box hP1 n_P1_U1
  replace hB := stv10.below w.heap.size w lU1 hB
  replace hS := Nat.le_trans hS (Nat.le_of_eq stv10.size.symm)
  clear hU1 stv10
  have hU1 := hU1_
  clear hU1_
  refine wpList_value rfl (.bool okb) (by simp [go_sem]) ?_
  simp only [Act.put, List.setIfInBounds_toArray, List.set_cons_zero, List.set_cons_succ]
  clear hU1
  go_upto_region 3 with fail
  go_step
  refine wpList_load_box rfl 39 _ rfl hA2 (by rfl) Try.underlying39 rfl (by rw [bts_size]; kernel_rfl) ?_
  simp only [Act.put, List.setIfInBounds_toArray, List.set_cons_zero, List.set_cons_succ]
  refine wpList_enterR rfl 14 #[.agg (bts n2)] (by simp [go_sem]) _ (HT2.out _) ?_
  rintro e v11 ⟨xc, yc, zc, tc, uc, vc, mc, rfl, hpc, bv11⟩
  refine ⟨_, rfl, ?_⟩
  simp only [Act.put, List.setIfInBounds_toArray, List.set_cons_zero, List.set_cons_succ]
  replace hA0 := hA0.after bv11
  replace hA1 := hA1.after bv11
  replace hA2 := hA2.after bv11
  replace hP0 := hP0.after bv11
  replace hP1 := hP1.after bv11
  replace hB := hB.trans (bv11.mono hS)
  replace hS := Nat.le_trans hS bv11.size
  clear bv11
  have HPc := Lib.hid hpc
  clear hpc
  refine wpList_value rfl (.tuple #[.agg (pArr xc yc zc tc), .agg (qArr uc vc mc), .bool okc]) (by simp [go_sem]) ?_
  simp only [Act.put, List.setIfInBounds_toArray, List.set_cons_zero, List.set_cons_succ]
  refine wpList_value rfl (.agg (pArr xc yc zc tc)) (by simp [go_sem]) ?_
  simp only [Act.put, List.setIfInBounds_toArray, List.set_cons_zero, List.set_cons_succ]
  refine wpList_value rfl (.agg (qArr uc vc mc)) (by simp [go_sem]) ?_
  simp only [Act.put, List.setIfInBounds_toArray, List.set_cons_zero, List.set_cons_succ]
  refine wpList_value rfl (.bool okc) (by simp [go_sem]) ?_
  simp only [Act.put, List.setIfInBounds_toArray, List.set_cons_zero, List.set_cons_succ]
  refine wpList_new rfl 29 rfl #[.int .u64 0, .int .u64 0, .int .u64 0, .int .u64 0, .int .u64 0, .int .u64 0, .int .u64 0, .int .u64 0, .int .u64 0, .int .u64 0, .int .u64 0, .int .u64 0, .int .u64 0, .int .u64 0, .int .u64 0, .int .u64 0, .int .u64 0, .int .u64 0, .int .u64 0, .int .u64 0] (by intro w; simp [go_sem]) ?_
  intro gP2 v12 hP2 lP2 bv12
  simp only [Act.put, List.setIfInBounds_toArray, List.set_cons_zero, List.set_cons_succ]
  have n_A0_P2 := hA0.before lP2
  have n_P2_A0 := hA0.behind lP2
  have n_A1_P2 := hA1.before lP2
  have n_P2_A1 := hA1.behind lP2
  have n_A2_P2 := hA2.before lP2
  have n_P2_A2 := hA2.behind lP2
  have n_P0_P2 := hP0.before lP2
  have n_P2_P0 := hP0.behind lP2
  have n_P1_P2 := hP1.before lP2
  have n_P2_P1 := hP1.behind lP2
  replace lP2 := Nat.le_trans hS lP2
  replace hA0 := hA0.after bv12
  replace hA1 := hA1.after bv12
  replace hA2 := hA2.after bv12
  replace hP0 := hP0.after bv12
  replace hP1 := hP1.after bv12
  replace hB := hB.trans (bv12.mono hS)
  replace hS := Nat.le_trans hS bv12.size
  clear bv12
  refine wpList_new rfl 36 rfl (Array.replicate 48 (Value.int .u64 0)) (by intro w; simp [go_sem]; rfl) ?_
  intro gU2 v13 hU2 lU2 bv13
  simp only [Act.put, List.setIfInBounds_toArray, List.set_cons_zero, List.set_cons_succ]
  have n_A0_U2 := hA0.before lU2
  have n_U2_A0 := hA0.behind lU2
  have n_A1_U2 := hA1.before lU2
  have n_U2_A1 := hA1.behind lU2
  have n_A2_U2 := hA2.before lU2
  have n_U2_A2 := hA2.behind lU2
  have n_P0_U2 := hP0.before lU2
  have n_U2_P0 := hP0.behind lU2
  have n_P1_U2 := hP1.before lU2
  have n_U2_P1 := hP1.behind lU2
  have n_P2_U2 := hP2.before lU2
  have n_U2_P2 := hP2.behind lU2
  replace lU2 := Nat.le_trans hS lU2
  replace hA0 := hA0.after bv13
  replace hA1 := hA1.after bv13
  replace hA2 := hA2.after bv13
  replace hP0 := hP0.after bv13
  replace hP1 := hP1.after bv13
  replace hP2 := hP2.after bv13
  replace hB := hB.trans (bv13.mono hS)
  replace hS := Nat.le_trans hS bv13.size
  clear bv13
  refine wpList_store_box (cells := pArr xc yc zc tc) rfl 29 (.tmp 13) (.tmp 32) rfl hP2 (by rfl) (by rfl) (by rw [pArr_size xc yc zc tc]; rfl) (by rw [pArr_size xc yc zc tc]; kernel_rfl) (pArr_one _ _ _ _) ?_
  intro v14 hP2_ stv14
  simp only [Act.put]
  replace hA0 := stv14.box hA0 n_A0_P2
  replace hA1 := stv14.box hA1 n_A1_P2
  replace hA2 := stv14.box hA2 n_A2_P2
  replace hP0 := stv14.box hP0 n_P0_P2
  replace hP1 := stv14.box hP1 n_P1_P2
  replace hU2 := stv14.box hU2 n_U2_P2
  replace hB := stv14.below w.heap.size w lP2 hB
  replace hS := Nat.le_trans hS (Nat.le_of_eq stv14.size.symm)
  clear hP2 stv14
  have hP2 := hP2_
  clear hP2_
  refine wpList_store_box (cells := qArr uc vc mc) rfl 36 (.tmp 14) (.tmp 33) rfl hU2 (by rfl) (by rfl) (by rw [qArr_size uc vc mc]; rfl) (by rw [qArr_size uc vc mc]; kernel_rfl) (qArr_one _ _ _) ?_
  intro v15 hU2_ stv15
  simp only [Act.put]
  replace hA0 := stv15.box hA0 n_A0_U2
  replace hA1 := stv15.box hA1 n_A1_U2
  replace hA2 := stv15.box hA2 n_A2_U2
  replace hP0 := stv15.box hP0 n_P0_U2
  replace hP1 := stv15.box hP1 n_P1_U2
  replace hP2 := stv15.box hP2 n_P2_U2
  replace hB := stv15.below w.heap.size w lU2 hB
  replace hS := Nat.le_trans hS (Nat.le_of_eq stv15.size.symm)
  clear hU2 stv15
  have hU2 := hU2_
  clear hU2_
  refine wpList_value rfl (.bool okc) (by simp [go_sem]) ?_
  simp only [Act.put, List.setIfInBounds_toArray, List.set_cons_zero, List.set_cons_succ]
  clear hU2 hA0 hA1 hA2
  cases oka with
  | false =>
    clear hP0 hP1 hP2
    go_wp2_with fail
    refine (awake7_any _).mono ?_
    rintro e w9 ⟨rfl, hb9⟩
    have hB9 := hB.trans (hb9.mono hB.size)
    clear hb9 hB hS
    go_wp2_with fail
    go_ret
    exact ⟨rfl, hB9⟩
  | true =>
    cases okb with
    | false =>
      clear hP0 hP1 hP2
      go_wp2_with fail
      refine (awake7_any _).mono ?_
      rintro e w9 ⟨rfl, hb9⟩
      have hB9 := hB.trans (hb9.mono hB.size)
      clear hb9 hB hS
      go_wp2_with fail
      go_ret
      exact ⟨rfl, hB9⟩
    | true =>
      cases okc with
      | false =>
        clear hP0 hP1 hP2
        go_wp2_with fail
        refine (awake7_any _).mono ?_
        rintro e w9 ⟨rfl, hb9⟩
        have hB9 := hB.trans (hb9.mono hB.size)
        clear hb9 hB hS
        go_wp2_with fail
        go_ret
        exact ⟨rfl, hB9⟩
      | true =>
        have Ha := Lib.hid (HPa.out (by first | rfl | trivial)).1
        have Ka := Lib.hid (HPa.out (by first | rfl | trivial)).2.ok
        have Hb := Lib.hid (HPb.out (by first | rfl | trivial)).1
        have Kb := Lib.hid (HPb.out (by first | rfl | trivial)).2.ok
        have Hc := Lib.hid (HPc.out (by first | rfl | trivial)).1
        have Kc := Lib.hid (HPc.out (by first | rfl | trivial)).2.ok
        go_upto_region 6 with fail
        go_step
        refine wpList_enterR rfl 20 #[] (by simp [go_sem]) _ (zero_is _) ?_
        rintro e v16 ⟨xz, yz, zz, tz, rfl, hz9, bv16⟩
        refine ⟨_, rfl, ?_⟩
        simp only [Act.put, List.setIfInBounds_toArray, List.set_cons_zero, List.set_cons_succ]
        replace hP0 := hP0.after bv16
        replace hP1 := hP1.after bv16
        replace hP2 := hP2.after bv16
        replace hB := hB.trans (bv16.mono hS)
        replace hS := Nat.le_trans hS bv16.size
        clear bv16
        have Hz := Lib.hid hz9
        clear hz9
        refine wpList_new rfl 29 rfl #[.int .u64 0, .int .u64 0, .int .u64 0, .int .u64 0, .int .u64 0, .int .u64 0, .int .u64 0, .int .u64 0, .int .u64 0, .int .u64 0, .int .u64 0, .int .u64 0, .int .u64 0, .int .u64 0, .int .u64 0, .int .u64 0, .int .u64 0, .int .u64 0, .int .u64 0, .int .u64 0] (by intro w; simp [go_sem]) ?_
        intro gZ v17 hZ lZ bv17
        simp only [Act.put, List.setIfInBounds_toArray, List.set_cons_zero, List.set_cons_succ]
        have n_P0_Z := hP0.before lZ
        have n_Z_P0 := hP0.behind lZ
        have n_P1_Z := hP1.before lZ
        have n_Z_P1 := hP1.behind lZ
        have n_P2_Z := hP2.before lZ
        have n_Z_P2 := hP2.behind lZ
        replace lZ := Nat.le_trans hS lZ
        replace hP0 := hP0.after bv17
        replace hP1 := hP1.after bv17
        replace hP2 := hP2.after bv17
        replace hB := hB.trans (bv17.mono hS)
        replace hS := Nat.le_trans hS bv17.size
        clear bv17
        refine wpList_store_box (cells := pArr xz yz zz tz) rfl 29 (.tmp 16) (.tmp 46) rfl hZ (by rfl) (by rfl) (by rw [pArr_size xz yz zz tz]; rfl) (by rw [pArr_size xz yz zz tz]; kernel_rfl) (pArr_one _ _ _ _) ?_
        intro v18 hZ_ stv18
        simp only [Act.put]
        replace hP0 := stv18.box hP0 n_P0_Z
        replace hP1 := stv18.box hP1 n_P1_Z
        replace hP2 := stv18.box hP2 n_P2_Z
        replace hB := stv18.below w.heap.size w lZ hB
        replace hS := Nat.le_trans hS (Nat.le_of_eq stv18.size.symm)
        clear hZ stv18
        have hZ := hZ_
        clear hZ_
        go_upto_region 7 with fail
        have hKS : Keeps (fun w' => Box w' gP0 29 (pArr xa ya za ta) ∧ Box w' gP1 29 (pArr xb yb zb tb) ∧ Box w' gP2 29 (pArr xc yc zc tc) ∧ Box w' gZ 29 (pArr xz yz zz tz)) := fun w w' h b => ⟨h.1.after b, h.2.1.after b, h.2.2.1.after b, h.2.2.2.after b⟩
        refine wp_region_U (w := v18) (fun w' => Box w' gP0 29 (pArr xa ya za ta) ∧ Box w' gP1 29 (pArr xb yb zb tb) ∧ Box w' gP2 29 (pArr xc yc zc tc) ∧ Box w' gZ 29 (pArr xz yz zz tz)) rfl (⟨hP0.drew, hP1.drew, hP2.drew, hZ.drew⟩) ?_
        replace hP0 := hP0.drew
        replace hP1 := hP1.drew
        replace hP2 := hP2.drew
        replace hZ := hZ.drew
        replace hB := hB.drew
        replace hS := Nat.le_trans hS (show v18.heap.size ≤ v18.drew.heap.size from Nat.le_refl _)
        refine wpU_val 0 hKS rfl (by kernel_rfl) (by kernel_rfl) (by kernel_rfl) rfl (fun _ _ _ _ h => h) (.agg (pArr xa ya za ta)) (fun w' h => run_load_box rfl h.1 (by simp [go_sem]) Try.underlying29 rfl (by rw [pArr_size xa ya za ta]; kernel_rfl)) ?_
        simp only [Act.put, List.setIfInBounds_toArray, List.set_cons_zero, List.set_cons_succ]
        refine wpU_val 1 hKS rfl (by kernel_rfl) (by kernel_rfl) (by kernel_rfl) rfl (fun _ _ _ _ h => h) (.agg (pArr xb yb zb tb)) (fun w' h => run_load_box rfl h.2.1 (by simp [go_sem]) Try.underlying29 rfl (by rw [pArr_size xb yb zb tb]; kernel_rfl)) ?_
        simp only [Act.put, List.setIfInBounds_toArray, List.set_cons_zero, List.set_cons_succ]
        refine wpU_val 3 hKS rfl (by kernel_rfl) (by kernel_rfl) (by kernel_rfl) rfl (fun _ _ _ _ h => h) (.agg (pArr xb yb zb tb)) (fun w' h => run_load_box rfl h.2.1 (by simp [go_sem]) Try.underlying29 rfl (by rw [pArr_size xb yb zb tb]; kernel_rfl)) ?_
        simp only [Act.put, List.setIfInBounds_toArray, List.set_cons_zero, List.set_cons_succ]
        refine wpU_val 4 hKS rfl (by kernel_rfl) (by kernel_rfl) (by kernel_rfl) rfl (fun _ _ _ _ h => h) (.agg (pArr xa ya za ta)) (fun w' h => run_load_box rfl h.1 (by simp [go_sem]) Try.underlying29 rfl (by rw [pArr_size xa ya za ta]; kernel_rfl)) ?_
        simp only [Act.put, List.setIfInBounds_toArray, List.set_cons_zero, List.set_cons_succ]
        refine wpU_one 2 rfl (by kernel_rfl) rfl ?_
        intro v19 bv19 sS
        replace hP0 := hP0.after bv19
        replace hP1 := hP1.after bv19
        replace hP2 := hP2.after bv19
        replace hZ := hZ.after bv19
        replace hB := hB.trans (bv19.mono hS)
        replace hS := Nat.le_trans hS bv19.size
        clear bv19
        refine wp_callR 15 #[.agg (pArr xa ya za ta), .agg (pArr xb yb zb tb)] (by simp [go_sem]) _ (add_is xa ya za ta xb yb zb tb _ _ Ha.out Hb.out _) ?_
        rintro e v20 ⟨xp1, yp1, zp1, tp1, rfl, hp1, bv20⟩
        refine ⟨_, rfl, hKS _ _ sS bv20, ?_⟩
        replace sS := hKS _ _ sS bv20
        simp only [Act.put, List.setIfInBounds_toArray, List.set_cons_zero, List.set_cons_succ]
        replace hP0 := hP0.after bv20
        replace hP1 := hP1.after bv20
        replace hP2 := hP2.after bv20
        replace hZ := hZ.after bv20
        replace hB := hB.trans (bv20.mono hS)
        replace hS := Nat.le_trans hS bv20.size
        clear bv20
        have Hp1 := Lib.hid hp1
        clear hp1
        refine wpU_one 5 rfl (by kernel_rfl) rfl ?_
        intro v21 bv21 sS
        replace hP0 := hP0.after bv21
        replace hP1 := hP1.after bv21
        replace hP2 := hP2.after bv21
        replace hZ := hZ.after bv21
        replace hB := hB.trans (bv21.mono hS)
        replace hS := Nat.le_trans hS bv21.size
        clear bv21
        refine wp_callR 15 #[.agg (pArr xb yb zb tb), .agg (pArr xa ya za ta)] (by simp [go_sem]) _ (add_is xb yb zb tb xa ya za ta _ _ Hb.out Ha.out _) ?_
        rintro e v22 ⟨xp2, yp2, zp2, tp2, rfl, hp2, bv22⟩
        refine ⟨_, rfl, hKS _ _ sS bv22, ?_⟩
        replace sS := hKS _ _ sS bv22
        simp only [Act.put, List.setIfInBounds_toArray, List.set_cons_zero, List.set_cons_succ]
        replace hP0 := hP0.after bv22
        replace hP1 := hP1.after bv22
        replace hP2 := hP2.after bv22
        replace hZ := hZ.after bv22
        replace hB := hB.trans (bv22.mono hS)
        replace hS := Nat.le_trans hS bv22.size
        clear bv22
        have Hp2 := Lib.hid hp2
        clear hp2
        have S6 := Lib.hid (same_yes xp1 yp1 zp1 tp1 xp2 yp2 zp2 tp2 _ _ Hp1.out Hp2.out (padd_comm Ka.out Kb.out))
        refine wpU_call 6 hKS rfl (by kernel_rfl) (by kernel_rfl) (by kernel_rfl) rfl (fun _ _ _ _ h => h) 19 #[.agg (pArr xp1 yp1 zp1 tp1), .agg (pArr xp2 yp2 zp2 tp2)] (fun w => by simp [go_sem]) _ (S6.out) ?_
        simp only [Act.put, List.setIfInBounds_toArray, List.set_cons_zero, List.set_cons_succ]
        refine wpU_val 7 hKS rfl (by kernel_rfl) (by kernel_rfl) (by kernel_rfl) rfl (fun _ _ _ _ h => h) (.bool true) (fun w' h => by simp [go_sem]) ?_
        simp only [Act.put, List.setIfInBounds_toArray, List.set_cons_zero, List.set_cons_succ]
        refine wpU_val 8 hKS rfl (by kernel_rfl) (by kernel_rfl) (by kernel_rfl) rfl (fun _ _ _ _ h => h) (.agg (pArr xa ya za ta)) (fun w' h => run_load_box rfl h.1 (by simp [go_sem]) Try.underlying29 rfl (by rw [pArr_size xa ya za ta]; kernel_rfl)) ?_
        simp only [Act.put, List.setIfInBounds_toArray, List.set_cons_zero, List.set_cons_succ]
        refine wpU_val 9 hKS rfl (by kernel_rfl) (by kernel_rfl) (by kernel_rfl) rfl (fun _ _ _ _ h => h) (.agg (pArr xb yb zb tb)) (fun w' h => run_load_box rfl h.2.1 (by simp [go_sem]) Try.underlying29 rfl (by rw [pArr_size xb yb zb tb]; kernel_rfl)) ?_
        simp only [Act.put, List.setIfInBounds_toArray, List.set_cons_zero, List.set_cons_succ]
        refine wpU_val 11 hKS rfl (by kernel_rfl) (by kernel_rfl) (by kernel_rfl) rfl (fun _ _ _ _ h => h) (.agg (pArr xc yc zc tc)) (fun w' h => run_load_box rfl h.2.2.1 (by simp [go_sem]) Try.underlying29 rfl (by rw [pArr_size xc yc zc tc]; kernel_rfl)) ?_
        simp only [Act.put, List.setIfInBounds_toArray, List.set_cons_zero, List.set_cons_succ]
        refine wpU_val 13 hKS rfl (by kernel_rfl) (by kernel_rfl) (by kernel_rfl) rfl (fun _ _ _ _ h => h) (.agg (pArr xa ya za ta)) (fun w' h => run_load_box rfl h.1 (by simp [go_sem]) Try.underlying29 rfl (by rw [pArr_size xa ya za ta]; kernel_rfl)) ?_
        simp only [Act.put, List.setIfInBounds_toArray, List.set_cons_zero, List.set_cons_succ]
        refine wpU_val 14 hKS rfl (by kernel_rfl) (by kernel_rfl) (by kernel_rfl) rfl (fun _ _ _ _ h => h) (.agg (pArr xb yb zb tb)) (fun w' h => run_load_box rfl h.2.1 (by simp [go_sem]) Try.underlying29 rfl (by rw [pArr_size xb yb zb tb]; kernel_rfl)) ?_
        simp only [Act.put, List.setIfInBounds_toArray, List.set_cons_zero, List.set_cons_succ]
        refine wpU_val 15 hKS rfl (by kernel_rfl) (by kernel_rfl) (by kernel_rfl) rfl (fun _ _ _ _ h => h) (.agg (pArr xc yc zc tc)) (fun w' h => run_load_box rfl h.2.2.1 (by simp [go_sem]) Try.underlying29 rfl (by rw [pArr_size xc yc zc tc]; kernel_rfl)) ?_
        simp only [Act.put, List.setIfInBounds_toArray, List.set_cons_zero, List.set_cons_succ]
        refine wpU_one 10 rfl (by kernel_rfl) rfl ?_
        intro v23 bv23 sS
        replace hP0 := hP0.after bv23
        replace hP1 := hP1.after bv23
        replace hP2 := hP2.after bv23
        replace hZ := hZ.after bv23
        replace hB := hB.trans (bv23.mono hS)
        replace hS := Nat.le_trans hS bv23.size
        clear bv23
        refine wp_callR 15 #[.agg (pArr xa ya za ta), .agg (pArr xb yb zb tb)] (by simp [go_sem]) _ (add_is xa ya za ta xb yb zb tb _ _ Ha.out Hb.out _) ?_
        rintro e v24 ⟨xp3, yp3, zp3, tp3, rfl, hp3, bv24⟩
        refine ⟨_, rfl, hKS _ _ sS bv24, ?_⟩
        replace sS := hKS _ _ sS bv24
        simp only [Act.put, List.setIfInBounds_toArray, List.set_cons_zero, List.set_cons_succ]
        replace hP0 := hP0.after bv24
        replace hP1 := hP1.after bv24
        replace hP2 := hP2.after bv24
        replace hZ := hZ.after bv24
        replace hB := hB.trans (bv24.mono hS)
        replace hS := Nat.le_trans hS bv24.size
        clear bv24
        have Hp3 := Lib.hid hp3
        clear hp3
        refine wpU_one 12 rfl (by kernel_rfl) rfl ?_
        intro v25 bv25 sS
        replace hP0 := hP0.after bv25
        replace hP1 := hP1.after bv25
        replace hP2 := hP2.after bv25
        replace hZ := hZ.after bv25
        replace hB := hB.trans (bv25.mono hS)
        replace hS := Nat.le_trans hS bv25.size
        clear bv25
        refine wp_callR 15 #[.agg (pArr xp3 yp3 zp3 tp3), .agg (pArr xc yc zc tc)] (by simp [go_sem]) _ (add_is xp3 yp3 zp3 tp3 xc yc zc tc _ _ Hp3.out Hc.out _) ?_
        rintro e v26 ⟨xp4, yp4, zp4, tp4, rfl, hp4, bv26⟩
        refine ⟨_, rfl, hKS _ _ sS bv26, ?_⟩
        replace sS := hKS _ _ sS bv26
        simp only [Act.put, List.setIfInBounds_toArray, List.set_cons_zero, List.set_cons_succ]
        replace hP0 := hP0.after bv26
        replace hP1 := hP1.after bv26
        replace hP2 := hP2.after bv26
        replace hZ := hZ.after bv26
        replace hB := hB.trans (bv26.mono hS)
        replace hS := Nat.le_trans hS bv26.size
        clear bv26
        have Hp4 := Lib.hid hp4
        clear hp4
        refine wpU_one 16 rfl (by kernel_rfl) rfl ?_
        intro v27 bv27 sS
        replace hP0 := hP0.after bv27
        replace hP1 := hP1.after bv27
        replace hP2 := hP2.after bv27
        replace hZ := hZ.after bv27
        replace hB := hB.trans (bv27.mono hS)
        replace hS := Nat.le_trans hS bv27.size
        clear bv27
        refine wp_callR 15 #[.agg (pArr xb yb zb tb), .agg (pArr xc yc zc tc)] (by simp [go_sem]) _ (add_is xb yb zb tb xc yc zc tc _ _ Hb.out Hc.out _) ?_
        rintro e v28 ⟨xp5, yp5, zp5, tp5, rfl, hp5, bv28⟩
        refine ⟨_, rfl, hKS _ _ sS bv28, ?_⟩
        replace sS := hKS _ _ sS bv28
        simp only [Act.put, List.setIfInBounds_toArray, List.set_cons_zero, List.set_cons_succ]
        replace hP0 := hP0.after bv28
        replace hP1 := hP1.after bv28
        replace hP2 := hP2.after bv28
        replace hZ := hZ.after bv28
        replace hB := hB.trans (bv28.mono hS)
        replace hS := Nat.le_trans hS bv28.size
        clear bv28
        have Hp5 := Lib.hid hp5
        clear hp5
        refine wpU_one 17 rfl (by kernel_rfl) rfl ?_
        intro v29 bv29 sS
        replace hP0 := hP0.after bv29
        replace hP1 := hP1.after bv29
        replace hP2 := hP2.after bv29
        replace hZ := hZ.after bv29
        replace hB := hB.trans (bv29.mono hS)
        replace hS := Nat.le_trans hS bv29.size
        clear bv29
        refine wp_callR 15 #[.agg (pArr xa ya za ta), .agg (pArr xp5 yp5 zp5 tp5)] (by simp [go_sem]) _ (add_is xa ya za ta xp5 yp5 zp5 tp5 _ _ Ha.out Hp5.out _) ?_
        rintro e v30 ⟨xp6, yp6, zp6, tp6, rfl, hp6, bv30⟩
        refine ⟨_, rfl, hKS _ _ sS bv30, ?_⟩
        replace sS := hKS _ _ sS bv30
        simp only [Act.put, List.setIfInBounds_toArray, List.set_cons_zero, List.set_cons_succ]
        replace hP0 := hP0.after bv30
        replace hP1 := hP1.after bv30
        replace hP2 := hP2.after bv30
        replace hZ := hZ.after bv30
        replace hB := hB.trans (bv30.mono hS)
        replace hS := Nat.le_trans hS bv30.size
        clear bv30
        have Hp6 := Lib.hid hp6
        clear hp6
        have S18 := Lib.hid (same_yes xp4 yp4 zp4 tp4 xp6 yp6 zp6 tp6 _ _ Hp4.out Hp6.out (padd_assoc Ka.out Kb.out Kc.out))
        refine wpU_call 18 hKS rfl (by kernel_rfl) (by kernel_rfl) (by kernel_rfl) rfl (fun _ _ _ _ h => h) 19 #[.agg (pArr xp4 yp4 zp4 tp4), .agg (pArr xp6 yp6 zp6 tp6)] (fun w => by simp [go_sem]) _ (S18.out) ?_
        simp only [Act.put, List.setIfInBounds_toArray, List.set_cons_zero, List.set_cons_succ]
        refine wpU_val 19 hKS rfl (by kernel_rfl) (by kernel_rfl) (by kernel_rfl) rfl (fun _ _ _ _ h => h) (.bool true) (fun w' h => by simp [go_sem]) ?_
        simp only [Act.put, List.setIfInBounds_toArray, List.set_cons_zero, List.set_cons_succ]
        refine wpU_val 20 hKS rfl (by kernel_rfl) (by kernel_rfl) (by kernel_rfl) rfl (fun _ _ _ _ h => h) (.bool true) (fun w' h => by simp [go_sem]) ?_
        simp only [Act.put, List.setIfInBounds_toArray, List.set_cons_zero, List.set_cons_succ]
        refine wpU_val 21 hKS rfl (by kernel_rfl) (by kernel_rfl) (by kernel_rfl) rfl (fun _ _ _ _ h => h) (.agg (pArr xa ya za ta)) (fun w' h => run_load_box rfl h.1 (by simp [go_sem]) Try.underlying29 rfl (by rw [pArr_size xa ya za ta]; kernel_rfl)) ?_
        simp only [Act.put, List.setIfInBounds_toArray, List.set_cons_zero, List.set_cons_succ]
        refine wpU_val 22 hKS rfl (by kernel_rfl) (by kernel_rfl) (by kernel_rfl) rfl (fun _ _ _ _ h => h) (.agg (pArr xz yz zz tz)) (fun w' h => run_load_box rfl h.2.2.2 (by simp [go_sem]) Try.underlying29 rfl (by rw [pArr_size xz yz zz tz]; kernel_rfl)) ?_
        simp only [Act.put, List.setIfInBounds_toArray, List.set_cons_zero, List.set_cons_succ]
        refine wpU_val 24 hKS rfl (by kernel_rfl) (by kernel_rfl) (by kernel_rfl) rfl (fun _ _ _ _ h => h) (.agg (pArr xa ya za ta)) (fun w' h => run_load_box rfl h.1 (by simp [go_sem]) Try.underlying29 rfl (by rw [pArr_size xa ya za ta]; kernel_rfl)) ?_
        simp only [Act.put, List.setIfInBounds_toArray, List.set_cons_zero, List.set_cons_succ]
        refine wpU_one 23 rfl (by kernel_rfl) rfl ?_
        intro v31 bv31 sS
        replace hP0 := hP0.after bv31
        replace hP1 := hP1.after bv31
        replace hP2 := hP2.after bv31
        replace hZ := hZ.after bv31
        replace hB := hB.trans (bv31.mono hS)
        replace hS := Nat.le_trans hS bv31.size
        clear bv31
        refine wp_callR 15 #[.agg (pArr xa ya za ta), .agg (pArr xz yz zz tz)] (by simp [go_sem]) _ (add_is xa ya za ta xz yz zz tz _ _ Ha.out Hz.out _) ?_
        rintro e v32 ⟨xp7, yp7, zp7, tp7, rfl, hp7, bv32⟩
        refine ⟨_, rfl, hKS _ _ sS bv32, ?_⟩
        replace sS := hKS _ _ sS bv32
        simp only [Act.put, List.setIfInBounds_toArray, List.set_cons_zero, List.set_cons_succ]
        replace hP0 := hP0.after bv32
        replace hP1 := hP1.after bv32
        replace hP2 := hP2.after bv32
        replace hZ := hZ.after bv32
        replace hB := hB.trans (bv32.mono hS)
        replace hS := Nat.le_trans hS bv32.size
        clear bv32
        have Hp7 := Lib.hid hp7
        clear hp7
        have S25 := Lib.hid (same_yes xp7 yp7 zp7 tp7 xa ya za ta _ _ Hp7.out Ha.out (padd_zero Ka.out))
        refine wpU_call 25 hKS rfl (by kernel_rfl) (by kernel_rfl) (by kernel_rfl) rfl (fun _ _ _ _ h => h) 19 #[.agg (pArr xp7 yp7 zp7 tp7), .agg (pArr xa ya za ta)] (fun w => by simp [go_sem]) _ (S25.out) ?_
        simp only [Act.put, List.setIfInBounds_toArray, List.set_cons_zero, List.set_cons_succ]
        refine wpU_val 26 hKS rfl (by kernel_rfl) (by kernel_rfl) (by kernel_rfl) rfl (fun _ _ _ _ h => h) (.bool true) (fun w' h => by simp [go_sem]) ?_
        simp only [Act.put, List.setIfInBounds_toArray, List.set_cons_zero, List.set_cons_succ]
        refine wpU_val 27 hKS rfl (by kernel_rfl) (by kernel_rfl) (by kernel_rfl) rfl (fun _ _ _ _ h => h) (.bool true) (fun w' h => by simp [go_sem]) ?_
        simp only [Act.put, List.setIfInBounds_toArray, List.set_cons_zero, List.set_cons_succ]
        refine wpU_val 28 hKS rfl (by kernel_rfl) (by kernel_rfl) (by kernel_rfl) rfl (fun _ _ _ _ h => h) (.agg (pArr xa ya za ta)) (fun w' h => run_load_box rfl h.1 (by simp [go_sem]) Try.underlying29 rfl (by rw [pArr_size xa ya za ta]; kernel_rfl)) ?_
        simp only [Act.put, List.setIfInBounds_toArray, List.set_cons_zero, List.set_cons_succ]
        refine wpU_val 29 hKS rfl (by kernel_rfl) (by kernel_rfl) (by kernel_rfl) rfl (fun _ _ _ _ h => h) (.agg (pArr xa ya za ta)) (fun w' h => run_load_box rfl h.1 (by simp [go_sem]) Try.underlying29 rfl (by rw [pArr_size xa ya za ta]; kernel_rfl)) ?_
        simp only [Act.put, List.setIfInBounds_toArray, List.set_cons_zero, List.set_cons_succ]
        refine wpU_val 32 hKS rfl (by kernel_rfl) (by kernel_rfl) (by kernel_rfl) rfl (fun _ _ _ _ h => h) (.agg (pArr xz yz zz tz)) (fun w' h => run_load_box rfl h.2.2.2 (by simp [go_sem]) Try.underlying29 rfl (by rw [pArr_size xz yz zz tz]; kernel_rfl)) ?_
        simp only [Act.put, List.setIfInBounds_toArray, List.set_cons_zero, List.set_cons_succ]
        refine wpU_one 30 rfl (by kernel_rfl) rfl ?_
        intro v33 bv33 sS
        replace hP0 := hP0.after bv33
        replace hP1 := hP1.after bv33
        replace hP2 := hP2.after bv33
        replace hZ := hZ.after bv33
        replace hB := hB.trans (bv33.mono hS)
        replace hS := Nat.le_trans hS bv33.size
        clear bv33
        refine wp_callR 17 #[.agg (pArr xa ya za ta)] (by simp [go_sem]) _ (neg_is xa ya za ta _ Ha.out _) ?_
        rintro e v34 ⟨xp8, yp8, zp8, tp8, rfl, hp8, bv34⟩
        refine ⟨_, rfl, hKS _ _ sS bv34, ?_⟩
        replace sS := hKS _ _ sS bv34
        simp only [Act.put, List.setIfInBounds_toArray, List.set_cons_zero, List.set_cons_succ]
        replace hP0 := hP0.after bv34
        replace hP1 := hP1.after bv34
        replace hP2 := hP2.after bv34
        replace hZ := hZ.after bv34
        replace hB := hB.trans (bv34.mono hS)
        replace hS := Nat.le_trans hS bv34.size
        clear bv34
        have Hp8 := Lib.hid hp8
        clear hp8
        refine wpU_one 31 rfl (by kernel_rfl) rfl ?_
        intro v35 bv35 sS
        replace hP0 := hP0.after bv35
        replace hP1 := hP1.after bv35
        replace hP2 := hP2.after bv35
        replace hZ := hZ.after bv35
        replace hB := hB.trans (bv35.mono hS)
        replace hS := Nat.le_trans hS bv35.size
        clear bv35
        refine wp_callR 15 #[.agg (pArr xa ya za ta), .agg (pArr xp8 yp8 zp8 tp8)] (by simp [go_sem]) _ (add_is xa ya za ta xp8 yp8 zp8 tp8 _ _ Ha.out Hp8.out _) ?_
        rintro e v36 ⟨xp9, yp9, zp9, tp9, rfl, hp9, bv36⟩
        refine ⟨_, rfl, hKS _ _ sS bv36, ?_⟩
        replace sS := hKS _ _ sS bv36
        simp only [Act.put, List.setIfInBounds_toArray, List.set_cons_zero, List.set_cons_succ]
        replace hP0 := hP0.after bv36
        replace hP1 := hP1.after bv36
        replace hP2 := hP2.after bv36
        replace hZ := hZ.after bv36
        replace hB := hB.trans (bv36.mono hS)
        replace hS := Nat.le_trans hS bv36.size
        clear bv36
        have Hp9 := Lib.hid hp9
        clear hp9
        have S33 := Lib.hid (same_yes xp9 yp9 zp9 tp9 xz yz zz tz _ _ Hp9.out Hz.out (padd_neg Ka.out))
        refine wpU_call 33 hKS rfl (by kernel_rfl) (by kernel_rfl) (by kernel_rfl) rfl (fun _ _ _ _ h => h) 19 #[.agg (pArr xp9 yp9 zp9 tp9), .agg (pArr xz yz zz tz)] (fun w => by simp [go_sem]) _ (S33.out) ?_
        simp only [Act.put, List.setIfInBounds_toArray, List.set_cons_zero, List.set_cons_succ]
        refine wpU_val 34 hKS rfl (by kernel_rfl) (by kernel_rfl) (by kernel_rfl) rfl (fun _ _ _ _ h => h) (.bool true) (fun w' h => by simp [go_sem]) ?_
        simp only [Act.put, List.setIfInBounds_toArray, List.set_cons_zero, List.set_cons_succ]
        refine wpU_val 35 hKS rfl (by kernel_rfl) (by kernel_rfl) (by kernel_rfl) rfl (fun _ _ _ _ h => h) (.bool true) (fun w' h => by simp [go_sem]) ?_
        simp only [Act.put, List.setIfInBounds_toArray, List.set_cons_zero, List.set_cons_succ]
        refine wpU_call 36 hKS rfl (by kernel_rfl) (by kernel_rfl) (by kernel_rfl) rfl (fun _ _ _ _ h => h) 9 #[] (fun w => by simp [go_sem]) _ (awake7_any) ?_
        simp only [Act.put, List.setIfInBounds_toArray, List.set_cons_zero, List.set_cons_succ]
        refine wpU_val 37 hKS rfl (by kernel_rfl) (by kernel_rfl) (by kernel_rfl) rfl (fun _ _ _ _ h => h) (.bool true) (fun w' h => by simp [go_sem]) ?_
        simp only [Act.put, List.setIfInBounds_toArray, List.set_cons_zero, List.set_cons_succ]
        refine wpU_val 38 hKS rfl (by kernel_rfl) (by kernel_rfl) (by kernel_rfl) rfl (fun _ _ _ _ h => h) (.bool true) (fun w' h => by simp [go_sem]) ?_
        simp only [Act.put, List.setIfInBounds_toArray, List.set_cons_zero, List.set_cons_succ]
        refine wpU_done (by kernel_rfl) ?_
        intro v37 bv37 sS
        clear hKS sS
        replace hP0 := hP0.after bv37
        replace hP1 := hP1.after bv37
        replace hP2 := hP2.after bv37
        replace hZ := hZ.after bv37
        replace hB := hB.trans (bv37.mono hS)
        replace hS := Nat.le_trans hS bv37.size
        clear bv37
        clear hP0 hP1 hP2 hZ
        clear n_A0_A1 n_A1_A0 n_A0_A2 n_A2_A0 n_A1_A2 n_A2_A1 n_A0_P0 n_P0_A0 n_A1_P0 n_P0_A1 n_A2_P0 n_P0_A2 n_A0_U0 n_U0_A0 n_A1_U0 n_U0_A1 n_A2_U0 n_U0_A2 n_P0_U0 n_U0_P0 n_A0_P1 n_P1_A0 n_A1_P1 n_P1_A1 n_A2_P1 n_P1_A2 n_P0_P1 n_P1_P0 n_A0_U1 n_U1_A0 n_A1_U1 n_U1_A1 n_A2_U1 n_U1_A2 n_P0_U1 n_U1_P0 n_P1_U1 n_U1_P1 n_A0_P2 n_P2_A0 n_A1_P2 n_P2_A1 n_A2_P2 n_P2_A2 n_P0_P2 n_P2_P0 n_P1_P2 n_P2_P1 n_A0_U2 n_U2_A0 n_A1_U2 n_U2_A1 n_A2_U2 n_U2_A2 n_P0_U2 n_U2_P0 n_P1_U2 n_U2_P1 n_P2_U2 n_U2_P2 n_P0_Z n_Z_P0 n_P1_Z n_Z_P1 n_P2_Z n_Z_P2
        go_wp2_with fail
        go_ret
        exact ⟨rfl, hB⟩
end Go.Proofs.Ytpkoniebbkkmjaa

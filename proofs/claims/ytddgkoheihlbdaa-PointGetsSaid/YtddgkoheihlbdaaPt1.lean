/- Points: the curve's number, and the document's root. -/
import Derived.Test.YtddgkoheihlbdaaPtMath
namespace Go.Proofs.Ytddgkoheihlbdaa
open Go.RowKit
attribute [local irreducible] fi dN xx rtN rtOk pw
theorem dN_def : dN = fm (fs 0 121665) (fi 121666) := by unfold dN; rfl
set_option maxRecDepth 100000 in
set_option maxHeartbeats 20000000 in
theorem curve_any (w : World) : Calls Try.prog 76 #[] w (RetEl dN w) := by
  have HO1 := Lib.hid (of_g 121665 (by decide))
  have HO2 := Lib.hid (of_g 121666 (by decide))
  have HS1 := Lib.hid (fun w : World => sub_el el_zero (elOf 121665 (by decide)) w)
  have HE := Lib.hid (elS el_zero (elOf 121665 (by decide)))
  have HI := Lib.hid (fun w : World => inv_fi (ofL 121666) 121666 w (elOf 121666 (by decide)))
  go_enter Try.func76, Try.ntmps76
  go_upto_region 1 with fail
  have hR : Box (w.alloc (.cells #[.int .u64 0, .int .u64 0, .int .u64 0, .int .u64 0, .int .u64 0] 27)) w.heap.size 27 #[.int .u64 0, .int .u64 0, .int .u64 0, .int .u64 0, .int .u64 0] := (Box.new w 27 #[.int .u64 0, .int .u64 0, .int .u64 0, .int .u64 0, .int .u64 0])
  have lR : w.heap.size ≤ w.heap.size := by omega
  have hB : Below w.heap.size w (w.alloc (.cells #[.int .u64 0, .int .u64 0, .int .u64 0, .int .u64 0, .int .u64 0] 27)) := ((Below.refl w.heap.size w).alloc (by simp; try omega) (.cells #[.int .u64 0, .int .u64 0, .int .u64 0, .int .u64 0, .int .u64 0] 27))
  have hS := hB.size
  change Code.wp _ _ _ _ (w.alloc (.cells #[.int .u64 0, .int .u64 0, .int .u64 0, .int .u64 0, .int .u64 0] 27))
  generalize (w.alloc (.cells #[.int .u64 0, .int .u64 0, .int .u64 0, .int .u64 0, .int .u64 0] 27)) = v0 at *
  go_step
  refine wpList_value rfl (.agg (gArr L5.zero.at)) (by simp [go_sem]; rfl) ?_
  simp only [Act.put, List.setIfInBounds_toArray, List.set_cons_zero, List.set_cons_succ]
  refine wpList_made_call rfl 20 #[.int .u64 121665] (by simp [go_sem]) _ (HO1.out _) ?_
  intro v1 bv1
  simp only [Act.put, List.setIfInBounds_toArray, List.set_cons_zero, List.set_cons_succ]
  replace hR := hR.after bv1
  replace hB := hB.trans (bv1.mono hS)
  replace hS := Nat.le_trans hS bv1.size
  clear bv1
  refine wpList_made_call rfl 35 #[.agg (gArr L5.zero.at), .agg (gArr (ofL 121665).at)] (by simp [go_sem]) _ (HS1.out _) ?_
  intro v2 bv2
  simp only [Act.put, List.setIfInBounds_toArray, List.set_cons_zero, List.set_cons_succ]
  replace hR := hR.after bv2
  replace hB := hB.trans (bv2.mono hS)
  replace hS := Nat.le_trans hS bv2.size
  clear bv2
  refine wpList_made_call rfl 20 #[.int .u64 121666] (by simp [go_sem]) _ (HO2.out _) ?_
  intro v3 bv3
  simp only [Act.put, List.setIfInBounds_toArray, List.set_cons_zero, List.set_cons_succ]
  replace hR := hR.after bv3
  replace hB := hB.trans (bv3.mono hS)
  replace hS := Nat.le_trans hS bv3.size
  clear bv3
  refine wpList_enterR rfl 40 #[.agg (gArr (ofL 121666).at)] (by simp [go_sem]) _ (HI.out _) ?_
  rintro e v4 ⟨z, rfl, hz, bv4⟩
  refine ⟨_, rfl, ?_⟩
  simp only [Act.put, List.setIfInBounds_toArray, List.set_cons_zero, List.set_cons_succ]
  replace hR := hR.after bv4
  replace hB := hB.trans (bv4.mono hS)
  replace hS := Nat.le_trans hS bv4.size
  clear bv4
  have HZ := Lib.hid hz
  clear hz
  refine wpList_made_call rfl 34 #[.agg (gArr (L5.zero.sub (ofL 121665)).at), .agg (gArr z.at)] (by simp [go_sem]) _ (mul_el HE.out HZ.out _) ?_
  intro v5 bv5
  simp only [Act.put, List.setIfInBounds_toArray, List.set_cons_zero, List.set_cons_succ]
  replace hR := hR.after bv5
  replace hB := hB.trans (bv5.mono hS)
  replace hS := Nat.le_trans hS bv5.size
  clear bv5
  obtain ⟨d, hd, hel⟩ : ∃ d : L5, d = (L5.zero.sub (ofL 121665)).mul z ∧ El d dN := ⟨_, rfl, by rw [dN_def]; exact elM HE.out HZ.out⟩
  have HEL := Lib.hid hel
  rw [← hd]
  clear hel hd
  refine wpList_store_box (cells := gArr d.at) rfl 27 (.tmp 0) (.tmp 6) rfl hR (by rfl) (by rfl) (by rw [gArr_size]; rfl) (by rw [gArr_size]; kernel_rfl) (gArr_one _) ?_
  intro v6 hR_ stv6
  simp only [Act.put]
  replace hB := stv6.below w.heap.size w lR hB
  replace hS := Nat.le_trans hS (Nat.le_of_eq stv6.size.symm)
  clear hR stv6
  have hR := hR_
  clear hR_
  obtain ⟨G, hG⟩ : ∃ G, G = gArr d.at := ⟨_, rfl⟩
  rw [← hG] at hR
  have HGS := Lib.hid (show G.size = 5 by rw [hG]; exact gArr_size _)
  have HG := Lib.hid hG
  clear hG
  go_wp2_with fail
  exact bodyPost_ret (v := .agg G) (box_result rfl _ _ (by rfl) hR Try.underlying27 rfl (by rw [HGS.out]; kernel_rfl)) rfl ⟨d, by rw [HG.out], HEL.out, hB⟩
set_option maxRecDepth 100000 in
set_option maxHeartbeats 20000000 in
theorem refD_any (w : World) : Calls Try.prog 82 #[] w fun e w' => e = .returned (.agg (fArr (dig dN))) ∧ Below w.heap.size w w' := by
  have HO1 := Lib.hid (fun w : World => refOf_any 121665 w (by decide))
  have HO2 := Lib.hid (fun w : World => refOf_any 121666 w (by decide))
  have HN := Lib.hid (rNeg 121665 (by unfold P25; omega))
  have HI := Lib.hid (rInv 121666 (by unfold P25; omega))
  have HM := Lib.hid (rMul (fs 0 121665) (fi 121666) (fs_lt _ _) (fi_lt _))
  rw [← dN_def] at HM
  generalize fs 0 121665 = n1 at *
  generalize fi 121666 = n2 at *
  go_enter Try.func82, Try.ntmps82
  go_upto_region 1 with fail
  have hR : Box (w.alloc (.cells (Array.replicate 16 (Value.int .u64 0)) 34)) w.heap.size 34 (Array.replicate 16 (Value.int .u64 0)) := (Box.new w 34 (Array.replicate 16 (Value.int .u64 0)))
  have lR : w.heap.size ≤ w.heap.size := by omega
  have hB : Below w.heap.size w (w.alloc (.cells (Array.replicate 16 (Value.int .u64 0)) 34)) := ((Below.refl w.heap.size w).alloc (by simp; try omega) (.cells (Array.replicate 16 (Value.int .u64 0)) 34))
  have hS := hB.size
  change Code.wp _ _ _ _ (w.alloc (.cells (Array.replicate 16 (Value.int .u64 0)) 34))
  generalize (w.alloc (.cells (Array.replicate 16 (Value.int .u64 0)) 34)) = v0 at *
  go_step
  refine wpList_made_call rfl 22 #[.int .u64 121665] (by simp [go_sem]) _ (HO1.out _) ?_
  intro v1 bv1
  simp only [Act.put, List.setIfInBounds_toArray, List.set_cons_zero, List.set_cons_succ]
  replace hR := hR.after bv1
  replace hB := hB.trans (bv1.mono hS)
  replace hS := Nat.le_trans hS bv1.size
  clear bv1
  refine wpList_made_call rfl 73 #[.agg (fArr (dig 121665))] (by simp [go_sem]) _ (HN.out _) ?_
  intro v2 bv2
  simp only [Act.put, List.setIfInBounds_toArray, List.set_cons_zero, List.set_cons_succ]
  replace hR := hR.after bv2
  replace hB := hB.trans (bv2.mono hS)
  replace hS := Nat.le_trans hS bv2.size
  clear bv2
  refine wpList_made_call rfl 22 #[.int .u64 121666] (by simp [go_sem]) _ (HO2.out _) ?_
  intro v3 bv3
  simp only [Act.put, List.setIfInBounds_toArray, List.set_cons_zero, List.set_cons_succ]
  replace hR := hR.after bv3
  replace hB := hB.trans (bv3.mono hS)
  replace hS := Nat.le_trans hS bv3.size
  clear bv3
  refine wpList_made_call rfl 43 #[.agg (fArr (dig 121666))] (by simp [go_sem]) _ (HI.out _) ?_
  intro v4 bv4
  simp only [Act.put, List.setIfInBounds_toArray, List.set_cons_zero, List.set_cons_succ]
  replace hR := hR.after bv4
  replace hB := hB.trans (bv4.mono hS)
  replace hS := Nat.le_trans hS bv4.size
  clear bv4
  refine wpList_made_call rfl 39 #[.agg (fArr (dig n1)), .agg (fArr (dig n2))] (by simp [go_sem]) _ (HM.out _) ?_
  intro v5 bv5
  simp only [Act.put, List.setIfInBounds_toArray, List.set_cons_zero, List.set_cons_succ]
  replace hR := hR.after bv5
  replace hB := hB.trans (bv5.mono hS)
  replace hS := Nat.le_trans hS bv5.size
  clear bv5
  refine wpList_store_box (cells := fArr (dig dN)) rfl 34 (.tmp 0) (.tmp 5) rfl hR (by rfl) (by rfl) (by rw [fArr_size]; rfl) (by rw [fArr_size]; kernel_rfl) (fArr_one _) ?_
  intro v6 hR_ stv6
  simp only [Act.put]
  replace hB := stv6.below w.heap.size w lR hB
  replace hS := Nat.le_trans hS (Nat.le_of_eq stv6.size.symm)
  clear hR stv6
  have hR := hR_
  clear hR_
  obtain ⟨G, hG⟩ : ∃ G, G = fArr (dig dN) := ⟨_, rfl⟩
  rw [← hG] at hR
  have HGS := Lib.hid (show G.size = 16 by rw [hG]; exact fArr_size _)
  have HG := Lib.hid hG
  clear hG
  go_wp2_with fail
  exact bodyPost_ret (v := .agg G) (box_result rfl _ _ (by rfl) hR Try.underlying34 rfl (by rw [HGS.out]; kernel_rfl)) rfl ⟨by rw [HG.out], hB⟩
theorem xx_def (y : Nat) : xx y = fm (fs (fm y y) 1) (fi (fa (fm dN (fm y y)) 1)) := by unfold xx; rfl
set_option maxRecDepth 100000 in
set_option maxHeartbeats 20000000 in
theorem refRoot7_any (y : Nat) (hy : y < P25) (w : World) : Calls Try.prog 77 #[.agg (fArr (dig y))] w fun e w' => e = .returned (.tuple #[.agg (fArr (dig (rtN (xx y)))), .bool (rtOk (xx y))]) ∧ Below w.heap.size w w' := by
  have HO := Lib.hid (fun w : World => refOf_any 1 w (by decide))
  have one_lt : 1 < P25 := by unfold P25; omega
  have HYY := Lib.hid (rMul y y hy hy)
  have HDM := Lib.hid (rMul dN (fm y y) (by rw [dN_def]; exact fm_lt _ _) (fm_lt _ _))
  have HAD := Lib.hid (rAdd (fm dN (fm y y)) 1 (fm_lt _ _) one_lt)
  have HSB := Lib.hid (rSub (fm y y) 1 (fm_lt _ _) one_lt)
  have HIN := Lib.hid (rInv (fa (fm dN (fm y y)) 1) (fa_lt _ _))
  have HM2 := Lib.hid (rMul (fs (fm y y) 1) (fi (fa (fm dN (fm y y)) 1)) (fs_lt _ _) (fi_lt _))
  have hx5 := xx_def y
  have hxl : xx y < P25 := by rw [hx5]; exact fm_lt _ _
  have HRT := Lib.hid (fun w : World => refRoot_any (xx y) w hxl)
  rw [← hx5] at HM2
  clear hx5 hxl one_lt hy
  generalize fm y y = yy at *
  generalize fm dN yy = n1 at *
  generalize fa n1 1 = n2 at *
  generalize fs yy 1 = n3 at *
  generalize fi n2 = n4 at *
  generalize xx y = n5 at *
  generalize rtN n5 = rn at *
  generalize rtOk n5 = c at *
  go_enter Try.func77, Try.ntmps77
  go_upto_region 1 with fail
  have hY : Box ((w.alloc (.cells (fArr (dig y)) 34)).alloc (.cells (Array.replicate 16 (Value.int .u64 0)) 34)) w.heap.size 34 (fArr (dig y)) := ((Box.new w 34 (fArr (dig y))).alloc (.cells (Array.replicate 16 (Value.int .u64 0)) 34))
  have lY : w.heap.size ≤ w.heap.size := by omega
  have hR : Box ((w.alloc (.cells (fArr (dig y)) 34)).alloc (.cells (Array.replicate 16 (Value.int .u64 0)) 34)) (w.heap.size + 1) 34 (Array.replicate 16 (Value.int .u64 0)) := by
    have := (Box.new (w.alloc (.cells (fArr (dig y)) 34)) 34 (Array.replicate 16 (Value.int .u64 0)))
    simp only [World.size_alloc] at this
    exact this
  have lR : w.heap.size ≤ (w.heap.size + 1) := by omega
  have n_Y_R : w.heap.size ≠ (w.heap.size + 1) := by omega
  have n_R_Y : (w.heap.size + 1) ≠ w.heap.size := by omega
  have hB : Below w.heap.size w ((w.alloc (.cells (fArr (dig y)) 34)).alloc (.cells (Array.replicate 16 (Value.int .u64 0)) 34)) := (((Below.refl w.heap.size w).alloc (by simp; try omega) (.cells (fArr (dig y)) 34)).alloc (by simp; try omega) (.cells (Array.replicate 16 (Value.int .u64 0)) 34))
  have hS := hB.size
  change Code.wp _ _ _ _ ((w.alloc (.cells (fArr (dig y)) 34)).alloc (.cells (Array.replicate 16 (Value.int .u64 0)) 34))
  generalize ((w.alloc (.cells (fArr (dig y)) 34)).alloc (.cells (Array.replicate 16 (Value.int .u64 0)) 34)) = v0 at *
  go_step
  refine wpList_made_call rfl 22 #[.int .u64 1] (by simp [go_sem]) _ (HO.out _) ?_
  intro v1 bv1
  simp only [Act.put, List.setIfInBounds_toArray, List.set_cons_zero, List.set_cons_succ]
  replace hY := hY.after bv1
  replace hR := hR.after bv1
  replace hB := hB.trans (bv1.mono hS)
  replace hS := Nat.le_trans hS bv1.size
  clear bv1
  refine wpList_new rfl 34 rfl (Array.replicate 16 (Value.int .u64 0)) (by intro w; simp [go_sem]; rfl) ?_
  intro gO v2 hO lO bv2
  simp only [Act.put, List.setIfInBounds_toArray, List.set_cons_zero, List.set_cons_succ]
  have n_Y_O := hY.before lO
  have n_O_Y := hY.behind lO
  have n_R_O := hR.before lO
  have n_O_R := hR.behind lO
  replace lO := Nat.le_trans hS lO
  replace hY := hY.after bv2
  replace hR := hR.after bv2
  replace hB := hB.trans (bv2.mono hS)
  replace hS := Nat.le_trans hS bv2.size
  clear bv2
  refine wpList_store_box (cells := fArr (dig 1)) rfl 34 (.tmp 4) (.tmp 7) rfl hO (by rfl) (by rfl) (by rw [fArr_size]; rfl) (by rw [fArr_size]; kernel_rfl) (fArr_one _) ?_
  intro v3 hO_ stv3
  simp only [Act.put]
  replace hY := stv3.box hY n_Y_O
  replace hR := stv3.box hR n_R_O
  replace hB := stv3.below w.heap.size w lO hB
  replace hS := Nat.le_trans hS (Nat.le_of_eq stv3.size.symm)
  clear hO stv3
  have hO := hO_
  clear hO_
  go_upto_region 2 with fail
  go_step
  refine wpList_load_box rfl 34 _ rfl hY (by rfl) Try.underlying34 rfl (by rw [fArr_size]; kernel_rfl) ?_
  simp only [Act.put, List.setIfInBounds_toArray, List.set_cons_zero, List.set_cons_succ]
  refine wpList_load_box rfl 34 _ rfl hY (by rfl) Try.underlying34 rfl (by rw [fArr_size]; kernel_rfl) ?_
  simp only [Act.put, List.setIfInBounds_toArray, List.set_cons_zero, List.set_cons_succ]
  refine wpList_made_call rfl 39 #[.agg (fArr (dig y)), .agg (fArr (dig y))] (by simp [go_sem]) _ (HYY.out _) ?_
  intro v4 bv4
  simp only [Act.put, List.setIfInBounds_toArray, List.set_cons_zero, List.set_cons_succ]
  replace hY := hY.after bv4
  replace hR := hR.after bv4
  replace hO := hO.after bv4
  replace hB := hB.trans (bv4.mono hS)
  replace hS := Nat.le_trans hS bv4.size
  clear bv4
  refine wpList_new rfl 34 rfl (Array.replicate 16 (Value.int .u64 0)) (by intro w; simp [go_sem]; rfl) ?_
  intro gQ v5 hQ lQ bv5
  simp only [Act.put, List.setIfInBounds_toArray, List.set_cons_zero, List.set_cons_succ]
  have n_Y_Q := hY.before lQ
  have n_Q_Y := hY.behind lQ
  have n_R_Q := hR.before lQ
  have n_Q_R := hR.behind lQ
  have n_O_Q := hO.before lQ
  have n_Q_O := hO.behind lQ
  replace lQ := Nat.le_trans hS lQ
  replace hY := hY.after bv5
  replace hR := hR.after bv5
  replace hO := hO.after bv5
  replace hB := hB.trans (bv5.mono hS)
  replace hS := Nat.le_trans hS bv5.size
  clear bv5
  refine wpList_store_box (cells := fArr (dig yy)) rfl 34 (.tmp 5) (.tmp 10) rfl hQ (by rfl) (by rfl) (by rw [fArr_size]; rfl) (by rw [fArr_size]; kernel_rfl) (fArr_one _) ?_
  intro v6 hQ_ stv6
  simp only [Act.put]
  replace hY := stv6.box hY n_Y_Q
  replace hR := stv6.box hR n_R_Q
  replace hO := stv6.box hO n_O_Q
  replace hB := stv6.below w.heap.size w lQ hB
  replace hS := Nat.le_trans hS (Nat.le_of_eq stv6.size.symm)
  clear hQ stv6
  have hQ := hQ_
  clear hQ_
  go_upto_region 3 with fail
  have hKS : Keeps (fun w' => Box w' gQ 34 (fArr (dig yy)) ∧ Box w' gO 34 (fArr (dig 1))) := fun w w' h b => ⟨h.1.after b, h.2.after b⟩
  refine wp_region_U (w := v6) (fun w' => Box w' gQ 34 (fArr (dig yy)) ∧ Box w' gO 34 (fArr (dig 1))) rfl (⟨hQ.drew, hO.drew⟩) ?_
  replace hY := hY.drew
  replace hR := hR.drew
  replace hO := hO.drew
  replace hQ := hQ.drew
  replace hB := hB.drew
  replace hS := Nat.le_trans hS (show v6.heap.size ≤ v6.drew.heap.size from Nat.le_refl _)
  refine wpU_call 0 hKS rfl (by kernel_rfl) (by kernel_rfl) (by kernel_rfl) rfl (fun _ _ _ _ h => h) 82 #[] (fun w => by simp [go_sem]) _ (refD_any) ?_
  simp only [Act.put, List.setIfInBounds_toArray, List.set_cons_zero, List.set_cons_succ]
  refine wpU_val 1 hKS rfl (by kernel_rfl) (by kernel_rfl) (by kernel_rfl) rfl (fun _ _ _ _ h => h) (.agg (fArr (dig yy))) (fun w' h => run_load_box rfl h.1 (by simp [go_sem]) Try.underlying34 rfl (by rw [fArr_size]; kernel_rfl)) ?_
  simp only [Act.put, List.setIfInBounds_toArray, List.set_cons_zero, List.set_cons_succ]
  refine wpU_call 2 hKS rfl (by kernel_rfl) (by kernel_rfl) (by kernel_rfl) rfl (fun _ _ _ _ h => h) 39 #[.agg (fArr (dig dN)), .agg (fArr (dig yy))] (fun w => by simp [go_sem]) _ (HDM.out) ?_
  simp only [Act.put, List.setIfInBounds_toArray, List.set_cons_zero, List.set_cons_succ]
  refine wpU_val 3 hKS rfl (by kernel_rfl) (by kernel_rfl) (by kernel_rfl) rfl (fun _ _ _ _ h => h) (.agg (fArr (dig 1))) (fun w' h => run_load_box rfl h.2 (by simp [go_sem]) Try.underlying34 rfl (by rw [fArr_size]; kernel_rfl)) ?_
  simp only [Act.put, List.setIfInBounds_toArray, List.set_cons_zero, List.set_cons_succ]
  refine wpU_call 4 hKS rfl (by kernel_rfl) (by kernel_rfl) (by kernel_rfl) rfl (fun _ _ _ _ h => h) 37 #[.agg (fArr (dig n1)), .agg (fArr (dig 1))] (fun w => by simp [go_sem]) _ (HAD.out) ?_
  simp only [Act.put, List.setIfInBounds_toArray, List.set_cons_zero, List.set_cons_succ]
  refine wpU_one 5 rfl (by kernel_rfl) rfl ?_
  intro v7 bv7 sS
  replace hY := hY.after bv7
  replace hR := hR.after bv7
  replace hO := hO.after bv7
  replace hQ := hQ.after bv7
  replace hB := hB.trans (bv7.mono hS)
  replace hS := Nat.le_trans hS bv7.size
  clear bv7
  refine wp_alloc_new 34 rfl (Array.replicate 16 (Value.int .u64 0)) (by intro w; simp [go_sem]; rfl) ?_
  intro gV v8 hV lV bv8
  refine ⟨hKS _ _ sS bv8, ?_⟩
  have n_Y_V := hY.before lV
  have n_V_Y := hY.behind lV
  have n_R_V := hR.before lV
  have n_V_R := hR.behind lV
  have n_O_V := hO.before lV
  have n_V_O := hO.behind lV
  have n_Q_V := hQ.before lV
  have n_V_Q := hQ.behind lV
  replace lV := Nat.le_trans hS lV
  replace sS := hKS _ _ sS bv8
  simp only [Act.put, List.setIfInBounds_toArray, List.set_cons_zero, List.set_cons_succ]
  replace hY := hY.after bv8
  replace hR := hR.after bv8
  replace hO := hO.after bv8
  replace hQ := hQ.after bv8
  replace hB := hB.trans (bv8.mono hS)
  replace hS := Nat.le_trans hS bv8.size
  clear bv8
  refine wpU_store_box (cells := fArr (dig n2)) 6 rfl (by kernel_rfl) rfl 34 (.tmp 6) (.tmp 15) rfl hV (by simp [go_sem]) (by simp [go_sem]) (by rw [fArr_size]; rfl) (by rw [fArr_size]; kernel_rfl) (fArr_one _) ?_
  intro v9 v10 bv9 sS hV_ stv10
  refine ⟨⟨stv10.box sS.1 n_Q_V, stv10.box sS.2 n_O_V⟩, ?_⟩
  simp only [Act.put]
  replace hY := hY.after bv9
  replace hR := hR.after bv9
  replace hO := hO.after bv9
  replace hQ := hQ.after bv9
  replace hV := hV.after bv9
  replace hB := hB.trans (bv9.mono hS)
  replace hS := Nat.le_trans hS bv9.size
  clear bv9
  replace hY := stv10.box hY n_Y_V
  replace hR := stv10.box hR n_R_V
  replace hO := stv10.box hO n_O_V
  replace hQ := stv10.box hQ n_Q_V
  replace hB := stv10.below w.heap.size w lV hB
  replace hS := Nat.le_trans hS (Nat.le_of_eq stv10.size.symm)
  clear hV stv10 sS
  have hV := hV_
  clear hV_
  refine wpU_done (by kernel_rfl) ?_
  intro v11 bv11 sS
  clear hKS sS
  replace hY := hY.after bv11
  replace hR := hR.after bv11
  replace hO := hO.after bv11
  replace hQ := hQ.after bv11
  replace hV := hV.after bv11
  replace hB := hB.trans (bv11.mono hS)
  replace hS := Nat.le_trans hS bv11.size
  clear bv11
  go_upto_region 4 with fail
  have hKS : Keeps (fun w' => Box w' gQ 34 (fArr (dig yy)) ∧ Box w' gO 34 (fArr (dig 1)) ∧ Box w' gV 34 (fArr (dig n2))) := fun w w' h b => ⟨h.1.after b, h.2.1.after b, h.2.2.after b⟩
  refine wp_region_U (w := v11) (fun w' => Box w' gQ 34 (fArr (dig yy)) ∧ Box w' gO 34 (fArr (dig 1)) ∧ Box w' gV 34 (fArr (dig n2))) rfl (⟨hQ.drew, hO.drew, hV.drew⟩) ?_
  replace hY := hY.drew
  replace hR := hR.drew
  replace hO := hO.drew
  replace hQ := hQ.drew
  replace hV := hV.drew
  replace hB := hB.drew
  replace hS := Nat.le_trans hS (show v11.heap.size ≤ v11.drew.heap.size from Nat.le_refl _)
  refine wpU_val 0 hKS rfl (by kernel_rfl) (by kernel_rfl) (by kernel_rfl) rfl (fun _ _ _ _ h => h) (.agg (fArr (dig yy))) (fun w' h => run_load_box rfl h.1 (by simp [go_sem]) Try.underlying34 rfl (by rw [fArr_size]; kernel_rfl)) ?_
  simp only [Act.put, List.setIfInBounds_toArray, List.set_cons_zero, List.set_cons_succ]
  refine wpU_val 1 hKS rfl (by kernel_rfl) (by kernel_rfl) (by kernel_rfl) rfl (fun _ _ _ _ h => h) (.agg (fArr (dig 1))) (fun w' h => run_load_box rfl h.2.1 (by simp [go_sem]) Try.underlying34 rfl (by rw [fArr_size]; kernel_rfl)) ?_
  simp only [Act.put, List.setIfInBounds_toArray, List.set_cons_zero, List.set_cons_succ]
  refine wpU_call 2 hKS rfl (by kernel_rfl) (by kernel_rfl) (by kernel_rfl) rfl (fun _ _ _ _ h => h) 38 #[.agg (fArr (dig yy)), .agg (fArr (dig 1))] (fun w => by simp [go_sem]) _ (HSB.out) ?_
  simp only [Act.put, List.setIfInBounds_toArray, List.set_cons_zero, List.set_cons_succ]
  refine wpU_val 3 hKS rfl (by kernel_rfl) (by kernel_rfl) (by kernel_rfl) rfl (fun _ _ _ _ h => h) (.agg (fArr (dig n2))) (fun w' h => run_load_box rfl h.2.2 (by simp [go_sem]) Try.underlying34 rfl (by rw [fArr_size]; kernel_rfl)) ?_
  simp only [Act.put, List.setIfInBounds_toArray, List.set_cons_zero, List.set_cons_succ]
  refine wpU_call 4 hKS rfl (by kernel_rfl) (by kernel_rfl) (by kernel_rfl) rfl (fun _ _ _ _ h => h) 43 #[.agg (fArr (dig n2))] (fun w => by simp [go_sem]) _ (HIN.out) ?_
  simp only [Act.put, List.setIfInBounds_toArray, List.set_cons_zero, List.set_cons_succ]
  refine wpU_call 5 hKS rfl (by kernel_rfl) (by kernel_rfl) (by kernel_rfl) rfl (fun _ _ _ _ h => h) 39 #[.agg (fArr (dig n3)), .agg (fArr (dig n4))] (fun w => by simp [go_sem]) _ (HM2.out) ?_
  simp only [Act.put, List.setIfInBounds_toArray, List.set_cons_zero, List.set_cons_succ]
  refine wpU_call 6 hKS rfl (by kernel_rfl) (by kernel_rfl) (by kernel_rfl) rfl (fun _ _ _ _ h => h) 42 #[.agg (fArr (dig n5))] (fun w => by simp [go_sem]) _ (HRT.out) ?_
  simp only [Act.put, List.setIfInBounds_toArray, List.set_cons_zero, List.set_cons_succ]
  refine wpU_val 7 hKS rfl (by kernel_rfl) (by kernel_rfl) (by kernel_rfl) rfl (fun _ _ _ _ h => h) (.agg (fArr (dig rn))) (fun w' h => by simp [go_sem]) ?_
  simp only [Act.put, List.setIfInBounds_toArray, List.set_cons_zero, List.set_cons_succ]
  refine wpU_val 8 hKS rfl (by kernel_rfl) (by kernel_rfl) (by kernel_rfl) rfl (fun _ _ _ _ h => h) (.bool c) (fun w' h => by simp [go_sem]) ?_
  simp only [Act.put, List.setIfInBounds_toArray, List.set_cons_zero, List.set_cons_succ]
  refine wpU_store_box (cells := fArr (dig rn)) 9 rfl (by kernel_rfl) rfl 34 (.tmp 2) (.tmp 23) rfl hR (by simp [go_sem]) (by simp [go_sem]) (by rw [fArr_size]; rfl) (by rw [fArr_size]; kernel_rfl) (fArr_one _) ?_
  intro v12 v13 bv12 sS hR_ stv13
  refine ⟨⟨stv13.box sS.1 n_Q_R, stv13.box sS.2.1 n_O_R, stv13.box sS.2.2 n_V_R⟩, ?_⟩
  simp only [Act.put]
  replace hY := hY.after bv12
  replace hR := hR.after bv12
  replace hO := hO.after bv12
  replace hQ := hQ.after bv12
  replace hV := hV.after bv12
  replace hB := hB.trans (bv12.mono hS)
  replace hS := Nat.le_trans hS bv12.size
  clear bv12
  replace hY := stv13.box hY n_Y_R
  replace hO := stv13.box hO n_O_R
  replace hQ := stv13.box hQ n_Q_R
  replace hV := stv13.box hV n_V_R
  replace hB := stv13.below w.heap.size w lR hB
  replace hS := Nat.le_trans hS (Nat.le_of_eq stv13.size.symm)
  clear hR stv13 sS
  have hR := hR_
  clear hR_
  refine wpU_val 10 hKS rfl (by kernel_rfl) (by kernel_rfl) (by kernel_rfl) rfl (fun _ _ _ _ h => h) (.bool c) (fun w' h => by simp [go_sem]) ?_
  simp only [Act.put, List.setIfInBounds_toArray, List.set_cons_zero, List.set_cons_succ]
  refine wpU_done (by kernel_rfl) ?_
  intro v14 bv14 sS
  clear hKS sS
  replace hY := hY.after bv14
  replace hR := hR.after bv14
  replace hO := hO.after bv14
  replace hQ := hQ.after bv14
  replace hV := hV.after bv14
  replace hB := hB.trans (bv14.mono hS)
  replace hS := Nat.le_trans hS bv14.size
  clear bv14
  obtain ⟨G, hG⟩ : ∃ G, G = fArr (dig rn) := ⟨_, rfl⟩
  rw [← hG] at hR
  have HGS := Lib.hid (show G.size = 16 by rw [hG]; exact fArr_size _)
  have HG := Lib.hid hG
  clear hG hY hO hQ hV
  go_wp2_with fail
  exact bodyPost_ret (v := .tuple #[.agg G, .bool c]) (box_result2 (p := 2) (q := 3) rfl _ _ (by rfl) hR Try.underlying34 rfl (by rw [HGS.out]; kernel_rfl)) rfl ⟨by rw [HG.out], hB⟩
end Go.Proofs.Ytddgkoheihlbdaa

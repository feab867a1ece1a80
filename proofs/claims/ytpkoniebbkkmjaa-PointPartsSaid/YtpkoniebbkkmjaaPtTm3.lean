/- Points: the document's Zero, Base, Times. -/
import Derived.Test.YtpkoniebbkkmjaaPtTm2
namespace Go.Proofs.Ytpkoniebbkkmjaa
open Go.RowKit
set_option linter.unusedVariables false
set_option linter.unusedSimpArgs false
attribute [local irreducible] fi dN xx rtN rtOk pw fa fs fm yB getOk getX

def RetQP (a : PP) (w : World) (e : Ending) (w' : World) : Prop := ∃ c : Array Value, e = .returned (.agg c) ∧ IsQ a c ∧ Below w.heap.size w w'
def IsD (d : Array Value) : Prop := d = fArr (dig dN)
theorem IsD.size {d : Array Value} (h : IsD d) : d.size = 16 := by unfold IsD at h; subst h; exact fArr_size _
theorem IsD.one {d : Array Value} (h : IsD d) : d.all (·.oneCell') = true := by unfold IsD at h; subst h; exact fArr_one _
theorem refD_p (w : World) : Calls Try.prog 47 #[] w fun e w' => ∃ d : Array Value, e = .returned (.agg d) ∧ IsD d ∧ Below w.heap.size w w' :=
  (refD_any w).mono fun e w' ⟨h1, h2⟩ => ⟨_, h1, rfl, h2⟩
theorem refAdd0_p {a b : PP} {d ea eb : Array Value} (hd : IsD d) (ha : IsQ a ea) (hb : IsQ b eb) (w : World) : Calls Try.prog 46 #[.agg ea, .agg eb, .agg d] w (RetQP (padd a b) w) := by
  unfold IsD at hd
  subst hd
  obtain ⟨u, v, n, rfl, ha⟩ := ha
  obtain ⟨u2, v2, n2, rfl, hb⟩ := hb
  refine (refPtAdd0_any u v n u2 v2 n2 dN ⟨ha.lx, ha.ly, ha.lz⟩ ⟨hb.lx, hb.ly, hb.lz⟩ (by rw [dN_def]; exact fm_lt _ _) w).mono ?_
  rintro e w' ⟨rfl, hb2⟩
  exact ⟨_, rfl, ⟨_, _, _, rfl, rep3_add ha hb⟩, hb2⟩
theorem same7_p {a : PP} {e1 e2 : Array Value} (h1 : IsPt a e1) (h2 : IsQ a e2) (w : World) : Calls Try.prog 13 #[.agg e1, .agg e2] w fun e w' => e = .returned (.bool true) ∧ Below w.heap.size w w' := by
  obtain ⟨x, y, z, t, rfl, h1⟩ := h1
  obtain ⟨u, v, n, rfl, h2⟩ := h2
  exact same7_is x y z t u v n a h1 h2 w
set_option maxRecDepth 100000 in
theorem build_q12 (v n : Nat) (w : World) : (Instr.build 36 #[(1, .agg (fArr (dig v))), (2, .agg (fArr (dig n)))]).run Try.prog w = .ok (.agg (qArr 0 v n)) w := by
  unfold qArr
  simp only [fArr_lit, dig_zero]
  simp [go_sem]
set_option linter.unusedSimpArgs false in
set_option maxRecDepth 100000 in
set_option maxHeartbeats 20000000 in
theorem refZero_p (w : World) : Calls Try.prog 50 #[] w (RetQP pzero w) := by
  have HO := Lib.hid (fun w : World => refOf_any 1 w (by decide))
  have HZ := Lib.hid rep_zero.toRep3
  go_enter Try.func50, Try.ntmps50
  go_upto_region 1 with fail
  have hR : Box (w.alloc (.cells (Array.replicate 48 (Value.int .u64 0)) 36)) w.heap.size 36 (Array.replicate 48 (Value.int .u64 0)) := (Box.new w 36 (Array.replicate 48 (Value.int .u64 0)))
  have lR : w.heap.size ≤ w.heap.size := by omega
  have hB : Below w.heap.size w (w.alloc (.cells (Array.replicate 48 (Value.int .u64 0)) 36)) := ((Below.refl w.heap.size w).alloc (by simp; try omega) (.cells (Array.replicate 48 (Value.int .u64 0)) 36))
  have hS := hB.size
  change Code.wp _ _ _ _ (w.alloc (.cells (Array.replicate 48 (Value.int .u64 0)) 36))
  generalize (w.alloc (.cells (Array.replicate 48 (Value.int .u64 0)) 36)) = v0 at *
  go_step
  refine wpList_made_call rfl 40 #[.int .u64 1] (by simp [go_sem]) _ (HO.out _) ?_
  intro v1 bv1
  simp only [Act.put, List.setIfInBounds_toArray, List.set_cons_zero, List.set_cons_succ]
  replace hR := hR.after bv1
  replace hB := hB.trans (bv1.mono hS)
  replace hS := Nat.le_trans hS bv1.size
  clear bv1
  refine wpList_made_call rfl 40 #[.int .u64 1] (by simp [go_sem]) _ (HO.out _) ?_
  intro v2 bv2
  simp only [Act.put, List.setIfInBounds_toArray, List.set_cons_zero, List.set_cons_succ]
  replace hR := hR.after bv2
  replace hB := hB.trans (bv2.mono hS)
  replace hS := Nat.le_trans hS bv2.size
  clear bv2
  refine wpList_value rfl (.agg (qArr 0 1 1)) (run_build rfl _ (by simp [go_sem]) _ (build_q12 1 1 _)) ?_
  simp only [Act.put, List.setIfInBounds_toArray, List.set_cons_zero, List.set_cons_succ]
  refine wpList_store_box (cells := qArr 0 1 1) rfl 36 (.tmp 0) (.tmp 3) rfl hR (by rfl) (by rfl) (by rw [qArr_size 0 1 1]; rfl) (by rw [qArr_size 0 1 1]; kernel_rfl) (qArr_one _ _ _) ?_
  intro v3 hR_ stv3
  simp only [Act.put]
  replace hB := stv3.below w.heap.size w lR hB
  replace hS := Nat.le_trans hS (Nat.le_of_eq stv3.size.symm)
  clear hR stv3
  have hR := hR_
  clear hR_
  obtain ⟨GG, hG⟩ : ∃ GG, GG = qArr 0 1 1 := ⟨_, rfl⟩
  rw [← hG] at hR
  have HGS := Lib.hid (show GG.size = 48 by rw [hG]; exact qArr_size 0 1 1)
  have HGE := Lib.hid hG
  clear hG
  go_wp2_with fail
  exact bodyPost_ret (v := .agg GG) (box_result rfl _ _ (by rfl) hR Try.underlying36 rfl (by rw [HGS.out]; kernel_rfl)) rfl ⟨GG, rfl, ⟨0, 1, 1, HGE.out, HZ.out⟩, hB⟩
set_option linter.unusedSimpArgs false in
set_option maxRecDepth 100000 in
set_option maxHeartbeats 20000000 in
theorem refBase_p (w : World) : Calls Try.prog 23 #[] w (RetQP pbase w) := by
  have HO1 := Lib.hid (fun w : World => refOf_any 1 w (by decide))
  have HO4 := Lib.hid (fun w : World => refOf_any 4 w (by decide))
  have HO5 := Lib.hid (fun w : World => refOf_any 5 w (by decide))
  have HI := Lib.hid (rInv 5 (by unfold P25; omega))
  have HM := Lib.hid (rMul 4 (fi 5) (by unfold P25; omega) (fi_lt _))
  rw [yB_is] at HM
  have HRT := Lib.hid (fun w : World => refRoot7_any yB yB_lt w)
  have HB := Lib.hid base_rep.toRep3
  generalize pbase = pb at *
  generalize fi 5 = i5 at *
  generalize rtOk (xx yB) = c at *
  generalize rtN (xx yB) = x at *
  generalize yB = y at *
  go_enter Try.func23, Try.ntmps23
  go_upto_region 1 with fail
  have hR : Box (w.alloc (.cells (Array.replicate 48 (Value.int .u64 0)) 36)) w.heap.size 36 (Array.replicate 48 (Value.int .u64 0)) := (Box.new w 36 (Array.replicate 48 (Value.int .u64 0)))
  have lR : w.heap.size ≤ w.heap.size := by omega
  have hB : Below w.heap.size w (w.alloc (.cells (Array.replicate 48 (Value.int .u64 0)) 36)) := ((Below.refl w.heap.size w).alloc (by simp; try omega) (.cells (Array.replicate 48 (Value.int .u64 0)) 36))
  have hS := hB.size
  change Code.wp _ _ _ _ (w.alloc (.cells (Array.replicate 48 (Value.int .u64 0)) 36))
  generalize (w.alloc (.cells (Array.replicate 48 (Value.int .u64 0)) 36)) = v0 at *
  go_step
  refine wpList_made_call rfl 40 #[.int .u64 4] (by simp [go_sem]) _ (HO4.out _) ?_
  intro v1 bv1
  simp only [Act.put, List.setIfInBounds_toArray, List.set_cons_zero, List.set_cons_succ]
  replace hR := hR.after bv1
  replace hB := hB.trans (bv1.mono hS)
  replace hS := Nat.le_trans hS bv1.size
  clear bv1
  refine wpList_made_call rfl 40 #[.int .u64 5] (by simp [go_sem]) _ (HO5.out _) ?_
  intro v2 bv2
  simp only [Act.put, List.setIfInBounds_toArray, List.set_cons_zero, List.set_cons_succ]
  replace hR := hR.after bv2
  replace hB := hB.trans (bv2.mono hS)
  replace hS := Nat.le_trans hS bv2.size
  clear bv2
  refine wpList_made_call rfl 49 #[.agg (fArr (dig 5))] (by simp [go_sem]) _ (HI.out _) ?_
  intro v3 bv3
  simp only [Act.put, List.setIfInBounds_toArray, List.set_cons_zero, List.set_cons_succ]
  replace hR := hR.after bv3
  replace hB := hB.trans (bv3.mono hS)
  replace hS := Nat.le_trans hS bv3.size
  clear bv3
  refine wpList_made_call rfl 48 #[.agg (fArr (dig 4)), .agg (fArr (dig i5))] (by simp [go_sem]) _ (HM.out _) ?_
  intro v4 bv4
  simp only [Act.put, List.setIfInBounds_toArray, List.set_cons_zero, List.set_cons_succ]
  replace hR := hR.after bv4
  replace hB := hB.trans (bv4.mono hS)
  replace hS := Nat.le_trans hS bv4.size
  clear bv4
  refine wpList_new rfl 34 rfl (Array.replicate 16 (Value.int .u64 0)) (by intro w; simp [go_sem]; rfl) ?_
  intro gY v5 hY lY bv5
  simp only [Act.put, List.setIfInBounds_toArray, List.set_cons_zero, List.set_cons_succ]
  have n_R_Y := hR.before lY
  have n_Y_R := hR.behind lY
  replace lY := Nat.le_trans hS lY
  replace hR := hR.after bv5
  replace hB := hB.trans (bv5.mono hS)
  replace hS := Nat.le_trans hS bv5.size
  clear bv5
  refine wpList_store_box (cells := fArr (dig y)) rfl 34 (.tmp 1) (.tmp 7) rfl hY (by rfl) (by rfl) (by rw [fArr_size]; rfl) (by rw [fArr_size]; kernel_rfl) (fArr_one _) ?_
  intro v6 hY_ stv6
  simp only [Act.put]
  replace hR := stv6.box hR n_R_Y
  replace hB := stv6.below w.heap.size w lY hB
  replace hS := Nat.le_trans hS (Nat.le_of_eq stv6.size.symm)
  clear hY stv6
  have hY := hY_
  clear hY_
  go_upto_region 2 with fail
  go_step
  refine wpList_load_box rfl 34 _ rfl hY (by rfl) Try.underlying34 rfl (by rw [fArr_size]; kernel_rfl) ?_
  simp only [Act.put, List.setIfInBounds_toArray, List.set_cons_zero, List.set_cons_succ]
  refine wpList_made_call rfl 38 #[.agg (fArr (dig y))] (by simp [go_sem]) _ (HRT.out _) ?_
  intro v7 bv7
  simp only [Act.put, List.setIfInBounds_toArray, List.set_cons_zero, List.set_cons_succ]
  replace hR := hR.after bv7
  replace hY := hY.after bv7
  replace hB := hB.trans (bv7.mono hS)
  replace hS := Nat.le_trans hS bv7.size
  clear bv7
  refine wpList_value rfl (.tuple #[.agg (fArr (dig x)), .bool c]) (by simp [go_sem]) ?_
  simp only [Act.put, List.setIfInBounds_toArray, List.set_cons_zero, List.set_cons_succ]
  refine wpList_value rfl (.agg (fArr (dig x))) (by simp [go_sem]) ?_
  simp only [Act.put, List.setIfInBounds_toArray, List.set_cons_zero, List.set_cons_succ]
  refine wpList_value rfl (.bool c) (by simp [go_sem]) ?_
  simp only [Act.put, List.setIfInBounds_toArray, List.set_cons_zero, List.set_cons_succ]
  refine wpList_new rfl 34 rfl (Array.replicate 16 (Value.int .u64 0)) (by intro w; simp [go_sem]; rfl) ?_
  intro gX v8 hX lX bv8
  simp only [Act.put, List.setIfInBounds_toArray, List.set_cons_zero, List.set_cons_succ]
  have n_R_X := hR.before lX
  have n_X_R := hR.behind lX
  have n_Y_X := hY.before lX
  have n_X_Y := hY.behind lX
  replace lX := Nat.le_trans hS lX
  replace hR := hR.after bv8
  replace hY := hY.after bv8
  replace hB := hB.trans (bv8.mono hS)
  replace hS := Nat.le_trans hS bv8.size
  clear bv8
  refine wpList_store_box (cells := fArr (dig x)) rfl 34 (.tmp 2) (.tmp 11) rfl hX (by rfl) (by rfl) (by rw [fArr_size]; rfl) (by rw [fArr_size]; kernel_rfl) (fArr_one _) ?_
  intro v9 hX_ stv9
  simp only [Act.put]
  replace hR := stv9.box hR n_R_X
  replace hY := stv9.box hY n_Y_X
  replace hB := stv9.below w.heap.size w lX hB
  replace hS := Nat.le_trans hS (Nat.le_of_eq stv9.size.symm)
  clear hX stv9
  have hX := hX_
  clear hX_
  refine wpList_value rfl (.bool c) (by simp [go_sem]) ?_
  simp only [Act.put, List.setIfInBounds_toArray, List.set_cons_zero, List.set_cons_succ]
  go_upto_region 3 with fail
  have hKS : Keeps (fun w' => Box w' gX 34 (fArr (dig x)) ∧ Box w' gY 34 (fArr (dig y))) := fun w w' h b => ⟨h.1.after b, h.2.after b⟩
  refine wp_region_U (w := v9) (fun w' => Box w' gX 34 (fArr (dig x)) ∧ Box w' gY 34 (fArr (dig y))) rfl (⟨hX.drew, hY.drew⟩) ?_
  replace hR := hR.drew
  replace hY := hY.drew
  replace hX := hX.drew
  replace hB := hB.drew
  replace hS := Nat.le_trans hS (show v9.heap.size ≤ v9.drew.heap.size from Nat.le_refl _)
  refine wpU_val 0 hKS rfl (by kernel_rfl) (by kernel_rfl) (by kernel_rfl) rfl (fun _ _ _ _ h => h) (.agg (fArr (dig x))) (fun w' h => run_load_box rfl h.1 (by simp [go_sem]) Try.underlying34 rfl (by rw [fArr_size]; kernel_rfl)) ?_
  simp only [Act.put, List.setIfInBounds_toArray, List.set_cons_zero, List.set_cons_succ]
  refine wpU_val 1 hKS rfl (by kernel_rfl) (by kernel_rfl) (by kernel_rfl) rfl (fun _ _ _ _ h => h) (.agg (fArr (dig y))) (fun w' h => run_load_box rfl h.2 (by simp [go_sem]) Try.underlying34 rfl (by rw [fArr_size]; kernel_rfl)) ?_
  simp only [Act.put, List.setIfInBounds_toArray, List.set_cons_zero, List.set_cons_succ]
  refine wpU_call 2 hKS rfl (by kernel_rfl) (by kernel_rfl) (by kernel_rfl) rfl (fun _ _ _ _ h => h) 40 #[.int .u64 1] (fun w => by simp [go_sem]) _ (HO1.out) ?_
  simp only [Act.put, List.setIfInBounds_toArray, List.set_cons_zero, List.set_cons_succ]
  refine wpU_val 3 hKS rfl (by kernel_rfl) (by kernel_rfl) (by kernel_rfl) rfl (fun _ _ _ _ h => h) (.agg (qArr x y 1)) (fun w' h => run_build rfl _ (by simp [go_sem]) _ (build_p x y 1 _)) ?_
  simp only [Act.put, List.setIfInBounds_toArray, List.set_cons_zero, List.set_cons_succ]
  refine wpU_store_box (cells := qArr x y 1) 4 rfl (by kernel_rfl) rfl 36 (.tmp 0) (.tmp 16) rfl hR (by simp [go_sem]) (by simp [go_sem]) (by rw [qArr_size x y 1]; rfl) (by rw [qArr_size x y 1]; kernel_rfl) (qArr_one _ _ _) ?_
  intro v10 v11 bv10 sS hR_ stv11
  refine ⟨⟨stv11.box sS.1 n_X_R, stv11.box sS.2 n_Y_R⟩, ?_⟩
  simp only [Act.put]
  replace hR := hR.after bv10
  replace hY := hY.after bv10
  replace hX := hX.after bv10
  replace hB := hB.trans (bv10.mono hS)
  replace hS := Nat.le_trans hS bv10.size
  clear bv10
  replace hY := stv11.box hY n_Y_R
  replace hX := stv11.box hX n_X_R
  replace hB := stv11.below w.heap.size w lR hB
  replace hS := Nat.le_trans hS (Nat.le_of_eq stv11.size.symm)
  clear hR stv11 sS
  have hR := hR_
  clear hR_
  refine wpU_done (by kernel_rfl) ?_
  intro v12 bv12 sS
  clear hKS sS
  replace hR := hR.after bv12
  replace hY := hY.after bv12
  replace hX := hX.after bv12
  replace hB := hB.trans (bv12.mono hS)
  replace hS := Nat.le_trans hS bv12.size
  clear bv12
  obtain ⟨GG, hG⟩ : ∃ GG, GG = qArr x y 1 := ⟨_, rfl⟩
  rw [← hG] at hR
  have HGS := Lib.hid (show GG.size = 48 by rw [hG]; exact qArr_size x y 1)
  have HGE := Lib.hid hG
  clear hG
  go_wp2_with fail
  exact bodyPost_ret (v := .agg GG) (box_result rfl _ _ (by rfl) hR Try.underlying36 rfl (by rw [HGS.out]; kernel_rfl)) rfl ⟨GG, rfl, ⟨x, y, 1, HGE.out, HB.out⟩, hB⟩

end Go.Proofs.Ytpkoniebbkkmjaa

/- FieldLaws: the walk. -/
import Derived.Test.YtddgkoheihlbdaaFldSquare
namespace Go.Proofs.Ytddgkoheihlbdaa
open Go.RowKit

theorem add_el {x y : L5} {u v : Nat} (hx : El x u) (hy : El y v) (w : World) : Calls Try.prog 33 #[.agg (gArr x.at), .agg (gArr y.at)] w fun e w' => e = .returned (.agg (gArr (x.add y).at)) ∧ Below w.heap.size w w' := add_g x y (lt_mono hx.1 (by omega)) (lt_mono hy.1 (by omega)) w
theorem sub_el {x y : L5} {u v : Nat} (hx : El x u) (hy : El y v) (w : World) : Calls Try.prog 35 #[.agg (gArr x.at), .agg (gArr y.at)] w fun e w' => e = .returned (.agg (gArr (x.sub y).at)) ∧ Below w.heap.size w w' := sub_g x y (lt_mono hx.1 (by omega)) (lt_mono hy.1 (by omega)) w
theorem same_eq {x y : L5} {u v : Nat} (hx : El x u) (hy : El y v) (h : u = v) (w : World) : Calls Try.prog 23 #[.agg (gArr x.at), .agg (gArr y.at)] w fun e w' => e = .returned (.bool true) ∧ Below w.heap.size w w' := by
  have := same_el hx hy w
  rw [h, beq_self_eq_true] at this
  exact this
theorem law_a (p u v t : Nat) : ((u + v) % p + t) % p = (u + (v + t) % p) % p := by rw [Nat.mod_add_mod, Nat.add_mod_mod, Nat.add_assoc]
theorem law_m (p u v t : Nat) : u * v % p * t % p = u * (v * t % p) % p := by rw [Nat.mod_mul_mod, Nat.mul_mod_mod, Nat.mul_assoc]
theorem law_d (p u v t : Nat) : u * ((v + t) % p) % p = (u * v % p + u * t % p) % p := by rw [Nat.mul_mod_mod, ← Nat.add_mod, Nat.mul_add]
theorem law_s (p u v : Nat) (hu : u < p) (hv : v < p) : ((u + (p - v)) % p + v) % p = u := by
  rw [Nat.mod_add_mod, show u + (p - v) + v = u + p by omega, Nat.add_mod_right, Nat.mod_eq_of_lt hu]

set_option maxRecDepth 100000 in
set_option maxHeartbeats 4000000 in
theorem FieldLaws_walk (l0 l1 l2 : List UInt8) (w : World) (w0 : l0.length = 32) (w1 : l1.length = 32) (w2 : l2.length = 32) :
    Calls Try.prog 11 #[.agg (lCells l0).toArray, .agg (lCells l1).toArray, .agg (lCells l2).toArray] w fun e w' => e = .returned (.bool true) ∧ Below w.heap.size w w' := by
  have HT0 := Lib.hid (fun w : World => two_any l0 w w0)
  have HLS0 := Lib.hid (show (lCells l0).toArray.size = 32 by simp [lCells, w0])
  have he0 := two_el l0
  obtain ⟨L0, hL0⟩ : ∃ L, L = (lCells l0).toArray := ⟨_, rfl⟩
  rw [← hL0] at HT0 HLS0 ⊢
  generalize twoX l0 = x at *
  generalize leNat l0 % P25 = u at *
  generalize decide (leNat l0 < P25) = oka at *
  have HE0 := Lib.hid he0
  clear hL0 he0 w0
  have HT1 := Lib.hid (fun w : World => two_any l1 w w1)
  have HLS1 := Lib.hid (show (lCells l1).toArray.size = 32 by simp [lCells, w1])
  have he1 := two_el l1
  obtain ⟨L1, hL1⟩ : ∃ L, L = (lCells l1).toArray := ⟨_, rfl⟩
  rw [← hL1] at HT1 HLS1 ⊢
  generalize twoX l1 = y at *
  generalize leNat l1 % P25 = v at *
  generalize decide (leNat l1 < P25) = okb at *
  have HE1 := Lib.hid he1
  clear hL1 he1 w1
  have HT2 := Lib.hid (fun w : World => two_any l2 w w2)
  have HLS2 := Lib.hid (show (lCells l2).toArray.size = 32 by simp [lCells, w2])
  have he2 := two_el l2
  obtain ⟨L2, hL2⟩ : ∃ L, L = (lCells l2).toArray := ⟨_, rfl⟩
  rw [← hL2] at HT2 HLS2 ⊢
  generalize twoX l2 = z at *
  generalize leNat l2 % P25 = t at *
  generalize decide (leNat l2 < P25) = okc at *
  have HE2 := Lib.hid he2
  clear hL2 he2 w2
  go_enter Try.func11, Try.ntmps11
  go_upto_region 1 with fail
  have hL0 : Box (((w.alloc (.cells L0 40)).alloc (.cells L1 40)).alloc (.cells L2 40)) w.heap.size 40 L0 := (((Box.new w 40 L0).alloc (.cells L1 40)).alloc (.cells L2 40))
  have hL1 : Box (((w.alloc (.cells L0 40)).alloc (.cells L1 40)).alloc (.cells L2 40)) (w.heap.size + 1) 40 L1 := by
    have := ((Box.new (w.alloc (.cells L0 40)) 40 L1).alloc (.cells L2 40))
    simp only [World.size_alloc] at this
    exact this
  have hL2 : Box (((w.alloc (.cells L0 40)).alloc (.cells L1 40)).alloc (.cells L2 40)) (w.heap.size + 2) 40 L2 := by
    have := (Box.new ((w.alloc (.cells L0 40)).alloc (.cells L1 40)) 40 L2)
    simp only [World.size_alloc, Nat.add_assoc, Nat.reduceAdd] at this
    exact this
  have hB : Below w.heap.size w (((w.alloc (.cells L0 40)).alloc (.cells L1 40)).alloc (.cells L2 40)) := ((((Below.refl w.heap.size w).alloc (by simp; try omega) (.cells L0 40)).alloc (by simp; try omega) (.cells L1 40)).alloc (by simp; try omega) (.cells L2 40))
  have hS := hB.size
  change Code.wp _ _ _ _ (((w.alloc (.cells L0 40)).alloc (.cells L1 40)).alloc (.cells L2 40))
  generalize (((w.alloc (.cells L0 40)).alloc (.cells L1 40)).alloc (.cells L2 40)) = v0 at *
  go_upto_region 1 with fail
  go_step
  refine wpList_load_box rfl 40 _ rfl hL0 (by rfl) Try.underlying40 rfl (by rw [HLS0.out]; kernel_rfl) ?_
  simp only [Act.put, List.setIfInBounds_toArray, List.set_cons_zero, List.set_cons_succ]
  refine wpList_made_call rfl 36 #[.agg L0] (by simp [go_sem]) _ (HT0.out _) ?_
  intro v1 bv1
  simp only [Act.put, List.setIfInBounds_toArray, List.set_cons_zero, List.set_cons_succ]
  replace hL0 := hL0.after bv1
  replace hL1 := hL1.after bv1
  replace hL2 := hL2.after bv1
  replace hB := hB.trans (bv1.mono hS)
  replace hS := Nat.le_trans hS bv1.size
  clear bv1
  refine wpList_value rfl (.tuple #[.agg (gArr x.at), .agg (fArr (dig u)), .bool oka]) (by simp [go_sem]) ?_
  simp only [Act.put, List.setIfInBounds_toArray, List.set_cons_zero, List.set_cons_succ]
  refine wpList_value rfl (.agg (gArr x.at)) (by simp [go_sem]) ?_
  simp only [Act.put, List.setIfInBounds_toArray, List.set_cons_zero, List.set_cons_succ]
  refine wpList_value rfl (.agg (fArr (dig u))) (by simp [go_sem]) ?_
  simp only [Act.put, List.setIfInBounds_toArray, List.set_cons_zero, List.set_cons_succ]
  refine wpList_value rfl (.bool oka) (by simp [go_sem]) ?_
  simp only [Act.put, List.setIfInBounds_toArray, List.set_cons_zero, List.set_cons_succ]
  refine wpList_new rfl 27 rfl #[.int .u64 0, .int .u64 0, .int .u64 0, .int .u64 0, .int .u64 0] (by intro w; simp [go_sem]) ?_
  intro gX v2 hX lX bv2
  simp only [Act.put, List.setIfInBounds_toArray, List.set_cons_zero, List.set_cons_succ]
  have n_L0_X := hL0.before lX
  have n_X_L0 := hL0.behind lX
  have n_L1_X := hL1.before lX
  have n_X_L1 := hL1.behind lX
  have n_L2_X := hL2.before lX
  have n_X_L2 := hL2.behind lX
  replace lX := Nat.le_trans hS lX
  replace hL0 := hL0.after bv2
  replace hL1 := hL1.after bv2
  replace hL2 := hL2.after bv2
  replace hB := hB.trans (bv2.mono hS)
  replace hS := Nat.le_trans hS bv2.size
  clear bv2
  refine wpList_new rfl 34 rfl (Array.replicate 16 (Value.int .u64 0)) (by intro w; simp [go_sem]; rfl) ?_
  intro gU v3 hU lU bv3
  simp only [Act.put, List.setIfInBounds_toArray, List.set_cons_zero, List.set_cons_succ]
  have n_L0_U := hL0.before lU
  have n_U_L0 := hL0.behind lU
  have n_L1_U := hL1.before lU
  have n_U_L1 := hL1.behind lU
  have n_L2_U := hL2.before lU
  have n_U_L2 := hL2.behind lU
  have n_X_U := hX.before lU
  have n_U_X := hX.behind lU
  replace lU := Nat.le_trans hS lU
  replace hL0 := hL0.after bv3
  replace hL1 := hL1.after bv3
  replace hL2 := hL2.after bv3
  replace hX := hX.after bv3
  replace hB := hB.trans (bv3.mono hS)
  replace hS := Nat.le_trans hS bv3.size
  clear bv3
  refine wpList_store_box (cells := gArr x.at) rfl 27 (.tmp 7) (.tmp 21) rfl hX (by rfl) (by rfl) (by rw [gArr_size]; rfl) (by rw [gArr_size]; kernel_rfl) (gArr_one _) ?_
  intro v4 hX_ stv4
  simp only [Act.put]
  replace hL0 := stv4.box hL0 n_L0_X
  replace hL1 := stv4.box hL1 n_L1_X
  replace hL2 := stv4.box hL2 n_L2_X
  replace hU := stv4.box hU n_U_X
  replace hB := stv4.below w.heap.size w lX hB
  replace hS := Nat.le_trans hS (Nat.le_of_eq stv4.size.symm)
  clear hX stv4
  have hX := hX_
  clear hX_
  refine wpList_store_box (cells := fArr (dig u)) rfl 34 (.tmp 8) (.tmp 22) rfl hU (by rfl) (by rfl) (by rw [fArr_size]; rfl) (by rw [fArr_size]; kernel_rfl) (fArr_one _) ?_
  intro v5 hU_ stv5
  simp only [Act.put]
  replace hL0 := stv5.box hL0 n_L0_U
  replace hL1 := stv5.box hL1 n_L1_U
  replace hL2 := stv5.box hL2 n_L2_U
  replace hX := stv5.box hX n_X_U
  replace hB := stv5.below w.heap.size w lU hB
  replace hS := Nat.le_trans hS (Nat.le_of_eq stv5.size.symm)
  clear hU stv5
  have hU := hU_
  clear hU_
  refine wpList_value rfl (.bool oka) (by simp [go_sem]) ?_
  simp only [Act.put, List.setIfInBounds_toArray, List.set_cons_zero, List.set_cons_succ]
  go_upto_region 2 with fail
  go_step
  refine wpList_load_box rfl 40 _ rfl hL1 (by rfl) Try.underlying40 rfl (by rw [HLS1.out]; kernel_rfl) ?_
  simp only [Act.put, List.setIfInBounds_toArray, List.set_cons_zero, List.set_cons_succ]
  refine wpList_made_call rfl 36 #[.agg L1] (by simp [go_sem]) _ (HT1.out _) ?_
  intro v6 bv6
  simp only [Act.put, List.setIfInBounds_toArray, List.set_cons_zero, List.set_cons_succ]
  replace hL0 := hL0.after bv6
  replace hL1 := hL1.after bv6
  replace hL2 := hL2.after bv6
  replace hX := hX.after bv6
  replace hU := hU.after bv6
  replace hB := hB.trans (bv6.mono hS)
  replace hS := Nat.le_trans hS bv6.size
  clear bv6
  refine wpList_value rfl (.tuple #[.agg (gArr y.at), .agg (fArr (dig v)), .bool okb]) (by simp [go_sem]) ?_
  simp only [Act.put, List.setIfInBounds_toArray, List.set_cons_zero, List.set_cons_succ]
  refine wpList_value rfl (.agg (gArr y.at)) (by simp [go_sem]) ?_
  simp only [Act.put, List.setIfInBounds_toArray, List.set_cons_zero, List.set_cons_succ]
  refine wpList_value rfl (.agg (fArr (dig v))) (by simp [go_sem]) ?_
  simp only [Act.put, List.setIfInBounds_toArray, List.set_cons_zero, List.set_cons_succ]
  refine wpList_value rfl (.bool okb) (by simp [go_sem]) ?_
  simp only [Act.put, List.setIfInBounds_toArray, List.set_cons_zero, List.set_cons_succ]
  refine wpList_new rfl 27 rfl #[.int .u64 0, .int .u64 0, .int .u64 0, .int .u64 0, .int .u64 0] (by intro w; simp [go_sem]) ?_
  intro gY v7 hY lY bv7
  simp only [Act.put, List.setIfInBounds_toArray, List.set_cons_zero, List.set_cons_succ]
  have n_L0_Y := hL0.before lY
  have n_Y_L0 := hL0.behind lY
  have n_L1_Y := hL1.before lY
  have n_Y_L1 := hL1.behind lY
  have n_L2_Y := hL2.before lY
  have n_Y_L2 := hL2.behind lY
  have n_X_Y := hX.before lY
  have n_Y_X := hX.behind lY
  have n_U_Y := hU.before lY
  have n_Y_U := hU.behind lY
  replace lY := Nat.le_trans hS lY
  replace hL0 := hL0.after bv7
  replace hL1 := hL1.after bv7
  replace hL2 := hL2.after bv7
  replace hX := hX.after bv7
  replace hU := hU.after bv7
  replace hB := hB.trans (bv7.mono hS)
  replace hS := Nat.le_trans hS bv7.size
  clear bv7
  refine wpList_new rfl 34 rfl (Array.replicate 16 (Value.int .u64 0)) (by intro w; simp [go_sem]; rfl) ?_
  intro gV v8 hV lV bv8
  simp only [Act.put, List.setIfInBounds_toArray, List.set_cons_zero, List.set_cons_succ]
  have n_L0_V := hL0.before lV
  have n_V_L0 := hL0.behind lV
  have n_L1_V := hL1.before lV
  have n_V_L1 := hL1.behind lV
  have n_L2_V := hL2.before lV
  have n_V_L2 := hL2.behind lV
  have n_X_V := hX.before lV
  have n_V_X := hX.behind lV
  have n_U_V := hU.before lV
  have n_V_U := hU.behind lV
  have n_Y_V := hY.before lV
  have n_V_Y := hY.behind lV
  replace lV := Nat.le_trans hS lV
  replace hL0 := hL0.after bv8
  replace hL1 := hL1.after bv8
  replace hL2 := hL2.after bv8
  replace hX := hX.after bv8
  replace hU := hU.after bv8
  replace hY := hY.after bv8
  replace hB := hB.trans (bv8.mono hS)
  replace hS := Nat.le_trans hS bv8.size
  clear bv8
  refine wpList_store_box (cells := gArr y.at) rfl 27 (.tmp 10) (.tmp 27) rfl hY (by rfl) (by rfl) (by rw [gArr_size]; rfl) (by rw [gArr_size]; kernel_rfl) (gArr_one _) ?_
  intro v9 hY_ stv9
  simp only [Act.put]
  replace hL0 := stv9.box hL0 n_L0_Y
  replace hL1 := stv9.box hL1 n_L1_Y
  replace hL2 := stv9.box hL2 n_L2_Y
  replace hX := stv9.box hX n_X_Y
  replace hU := stv9.box hU n_U_Y
  replace hV := stv9.box hV n_V_Y
  replace hB := stv9.below w.heap.size w lY hB
  replace hS := Nat.le_trans hS (Nat.le_of_eq stv9.size.symm)
  clear hY stv9
  have hY := hY_
  clear hY_
  refine wpList_store_box (cells := fArr (dig v)) rfl 34 (.tmp 11) (.tmp 28) rfl hV (by rfl) (by rfl) (by rw [fArr_size]; rfl) (by rw [fArr_size]; kernel_rfl) (fArr_one _) ?_
  intro v10 hV_ stv10
  simp only [Act.put]
  replace hL0 := stv10.box hL0 n_L0_V
  replace hL1 := stv10.box hL1 n_L1_V
  replace hL2 := stv10.box hL2 n_L2_V
  replace hX := stv10.box hX n_X_V
  replace hU := stv10.box hU n_U_V
  replace hY := stv10.box hY n_Y_V
  replace hB := stv10.below w.heap.size w lV hB
  replace hS := Nat.le_trans hS (Nat.le_of_eq stv10.size.symm)
  clear hV stv10
  have hV := hV_
  clear hV_
  refine wpList_value rfl (.bool okb) (by simp [go_sem]) ?_
  simp only [Act.put, List.setIfInBounds_toArray, List.set_cons_zero, List.set_cons_succ]
  go_upto_region 3 with fail
  go_step
  refine wpList_load_box rfl 40 _ rfl hL2 (by rfl) Try.underlying40 rfl (by rw [HLS2.out]; kernel_rfl) ?_
  simp only [Act.put, List.setIfInBounds_toArray, List.set_cons_zero, List.set_cons_succ]
  refine wpList_made_call rfl 36 #[.agg L2] (by simp [go_sem]) _ (HT2.out _) ?_
  intro v11 bv11
  simp only [Act.put, List.setIfInBounds_toArray, List.set_cons_zero, List.set_cons_succ]
  replace hL0 := hL0.after bv11
  replace hL1 := hL1.after bv11
  replace hL2 := hL2.after bv11
  replace hX := hX.after bv11
  replace hU := hU.after bv11
  replace hY := hY.after bv11
  replace hV := hV.after bv11
  replace hB := hB.trans (bv11.mono hS)
  replace hS := Nat.le_trans hS bv11.size
  clear bv11
  refine wpList_value rfl (.tuple #[.agg (gArr z.at), .agg (fArr (dig t)), .bool okc]) (by simp [go_sem]) ?_
  simp only [Act.put, List.setIfInBounds_toArray, List.set_cons_zero, List.set_cons_succ]
  refine wpList_value rfl (.agg (gArr z.at)) (by simp [go_sem]) ?_
  simp only [Act.put, List.setIfInBounds_toArray, List.set_cons_zero, List.set_cons_succ]
  refine wpList_value rfl (.agg (fArr (dig t))) (by simp [go_sem]) ?_
  simp only [Act.put, List.setIfInBounds_toArray, List.set_cons_zero, List.set_cons_succ]
  refine wpList_value rfl (.bool okc) (by simp [go_sem]) ?_
  simp only [Act.put, List.setIfInBounds_toArray, List.set_cons_zero, List.set_cons_succ]
  refine wpList_new rfl 27 rfl #[.int .u64 0, .int .u64 0, .int .u64 0, .int .u64 0, .int .u64 0] (by intro w; simp [go_sem]) ?_
  intro gZ v12 hZ lZ bv12
  simp only [Act.put, List.setIfInBounds_toArray, List.set_cons_zero, List.set_cons_succ]
  have n_L0_Z := hL0.before lZ
  have n_Z_L0 := hL0.behind lZ
  have n_L1_Z := hL1.before lZ
  have n_Z_L1 := hL1.behind lZ
  have n_L2_Z := hL2.before lZ
  have n_Z_L2 := hL2.behind lZ
  have n_X_Z := hX.before lZ
  have n_Z_X := hX.behind lZ
  have n_U_Z := hU.before lZ
  have n_Z_U := hU.behind lZ
  have n_Y_Z := hY.before lZ
  have n_Z_Y := hY.behind lZ
  have n_V_Z := hV.before lZ
  have n_Z_V := hV.behind lZ
  replace lZ := Nat.le_trans hS lZ
  replace hL0 := hL0.after bv12
  replace hL1 := hL1.after bv12
  replace hL2 := hL2.after bv12
  replace hX := hX.after bv12
  replace hU := hU.after bv12
  replace hY := hY.after bv12
  replace hV := hV.after bv12
  replace hB := hB.trans (bv12.mono hS)
  replace hS := Nat.le_trans hS bv12.size
  clear bv12
  refine wpList_new rfl 34 rfl (Array.replicate 16 (Value.int .u64 0)) (by intro w; simp [go_sem]; rfl) ?_
  intro gN v13 hN lN bv13
  simp only [Act.put, List.setIfInBounds_toArray, List.set_cons_zero, List.set_cons_succ]
  have n_L0_N := hL0.before lN
  have n_N_L0 := hL0.behind lN
  have n_L1_N := hL1.before lN
  have n_N_L1 := hL1.behind lN
  have n_L2_N := hL2.before lN
  have n_N_L2 := hL2.behind lN
  have n_X_N := hX.before lN
  have n_N_X := hX.behind lN
  have n_U_N := hU.before lN
  have n_N_U := hU.behind lN
  have n_Y_N := hY.before lN
  have n_N_Y := hY.behind lN
  have n_V_N := hV.before lN
  have n_N_V := hV.behind lN
  have n_Z_N := hZ.before lN
  have n_N_Z := hZ.behind lN
  replace lN := Nat.le_trans hS lN
  replace hL0 := hL0.after bv13
  replace hL1 := hL1.after bv13
  replace hL2 := hL2.after bv13
  replace hX := hX.after bv13
  replace hU := hU.after bv13
  replace hY := hY.after bv13
  replace hV := hV.after bv13
  replace hZ := hZ.after bv13
  replace hB := hB.trans (bv13.mono hS)
  replace hS := Nat.le_trans hS bv13.size
  clear bv13
  refine wpList_store_box (cells := gArr z.at) rfl 27 (.tmp 13) (.tmp 33) rfl hZ (by rfl) (by rfl) (by rw [gArr_size]; rfl) (by rw [gArr_size]; kernel_rfl) (gArr_one _) ?_
  intro v14 hZ_ stv14
  simp only [Act.put]
  replace hL0 := stv14.box hL0 n_L0_Z
  replace hL1 := stv14.box hL1 n_L1_Z
  replace hL2 := stv14.box hL2 n_L2_Z
  replace hX := stv14.box hX n_X_Z
  replace hU := stv14.box hU n_U_Z
  replace hY := stv14.box hY n_Y_Z
  replace hV := stv14.box hV n_V_Z
  replace hN := stv14.box hN n_N_Z
  replace hB := stv14.below w.heap.size w lZ hB
  replace hS := Nat.le_trans hS (Nat.le_of_eq stv14.size.symm)
  clear hZ stv14
  have hZ := hZ_
  clear hZ_
  refine wpList_store_box (cells := fArr (dig t)) rfl 34 (.tmp 14) (.tmp 34) rfl hN (by rfl) (by rfl) (by rw [fArr_size]; rfl) (by rw [fArr_size]; kernel_rfl) (fArr_one _) ?_
  intro v15 hN_ stv15
  simp only [Act.put]
  replace hL0 := stv15.box hL0 n_L0_N
  replace hL1 := stv15.box hL1 n_L1_N
  replace hL2 := stv15.box hL2 n_L2_N
  replace hX := stv15.box hX n_X_N
  replace hU := stv15.box hU n_U_N
  replace hY := stv15.box hY n_Y_N
  replace hV := stv15.box hV n_V_N
  replace hZ := stv15.box hZ n_Z_N
  replace hB := stv15.below w.heap.size w lN hB
  replace hS := Nat.le_trans hS (Nat.le_of_eq stv15.size.symm)
  clear hN stv15
  have hN := hN_
  clear hN_
  refine wpList_value rfl (.bool okc) (by simp [go_sem]) ?_
  simp only [Act.put, List.setIfInBounds_toArray, List.set_cons_zero, List.set_cons_succ]
  clear hL0 hL1 hL2 hU hV hN
  cases oka with
  | false =>
    clear hX hY hZ
    go_wp2_with fail
    refine (awakeF_any _).mono ?_
    rintro e w9 ⟨rfl, hb9⟩
    have hB9 := hB.trans (hb9.mono hB.size)
    clear hb9 hB hS
    go_wp2_with fail
    go_ret
    exact ⟨rfl, hB9⟩
  | true =>
    cases okb with
    | false =>
      clear hX hY hZ
      go_wp2_with fail
      refine (awakeF_any _).mono ?_
      rintro e w9 ⟨rfl, hb9⟩
      have hB9 := hB.trans (hb9.mono hB.size)
      clear hb9 hB hS
      go_wp2_with fail
      go_ret
      exact ⟨rfl, hB9⟩
    | true =>
      cases okc with
      | false =>
        clear hX hY hZ
        go_wp2_with fail
        refine (awakeF_any _).mono ?_
        rintro e w9 ⟨rfl, hb9⟩
        have hB9 := hB.trans (hb9.mono hB.size)
        clear hb9 hB hS
        go_wp2_with fail
        go_ret
        exact ⟨rfl, hB9⟩
      | true =>
        have HX := Lib.hid (HE0.out rfl)
        have HY := Lib.hid (HE1.out rfl)
        have HZ := Lib.hid (HE2.out rfl)
        have HP : Hid (0 < P25) := Lib.hid p_pos
        have S1 := Lib.hid (fun w : World => same_eq ((el_add HX.out HY.out)) ((el_add HY.out HX.out)) (by rw [Nat.add_comm]) w)
        have S2 := Lib.hid (fun w : World => same_eq ((el_mul HX.out HY.out)) ((el_mul HY.out HX.out)) (by rw [Nat.mul_comm]) w)
        have S3 := Lib.hid (fun w : World => same_eq ((el_add (el_add HX.out HY.out) HZ.out)) ((el_add HX.out (el_add HY.out HZ.out))) (law_a _ _ _ _) w)
        have S4 := Lib.hid (fun w : World => same_eq ((el_mul (el_mul HX.out HY.out) HZ.out)) ((el_mul HX.out (el_mul HY.out HZ.out))) (law_m _ _ _ _) w)
        have S5 := Lib.hid (fun w : World => same_eq ((el_mul HX.out (el_add HY.out HZ.out))) ((el_add (el_mul HX.out HY.out) (el_mul HX.out HZ.out))) (law_d _ _ _ _) w)
        have S6 := Lib.hid (fun w : World => same_eq ((el_add (el_sub HX.out HY.out) HY.out)) (HX.out) (law_s _ _ _ HX.out.2.1 HY.out.2.1) w)
        have Cxy := Lib.hid (fun w : World => add_el HX.out HY.out w)
        have Cyx := Lib.hid (fun w : World => add_el HY.out HX.out w)
        have Mxy := Lib.hid (fun w : World => mul_el HX.out HY.out w)
        have Myx := Lib.hid (fun w : World => mul_el HY.out HX.out w)
        have Cxyz := Lib.hid (fun w : World => add_el (el_add HX.out HY.out) HZ.out w)
        have Cyz := Lib.hid (fun w : World => add_el HY.out HZ.out w)
        have Cx_yz := Lib.hid (fun w : World => add_el HX.out (el_add HY.out HZ.out) w)
        have Mxyz := Lib.hid (fun w : World => mul_el (el_mul HX.out HY.out) HZ.out w)
        have Myz := Lib.hid (fun w : World => mul_el HY.out HZ.out w)
        have Mx_yz := Lib.hid (fun w : World => mul_el HX.out (el_mul HY.out HZ.out) w)
        have Mxs := Lib.hid (fun w : World => mul_el HX.out (el_add HY.out HZ.out) w)
        have Mxz := Lib.hid (fun w : World => mul_el HX.out HZ.out w)
        have Cd := Lib.hid (fun w : World => add_el (el_mul HX.out HY.out) (el_mul HX.out HZ.out) w)
        have Dxy := Lib.hid (fun w : World => sub_el HX.out HY.out w)
        have Cdy := Lib.hid (fun w : World => add_el (el_sub HX.out HY.out) HY.out w)
        have Mxx := Lib.hid (fun w : World => mul_el HX.out HX.out w)
        have HSQ := Lib.hid (square_root u HX.out.2.1)
        have HROOT := Lib.hid (fun w : World => root_any (x.mul x) (u * u % P25) w (el_mul HX.out HX.out))
        unfold RetRoot at HROOT
        rw [HSQ.out.1] at HROOT
        generalize rtN (u * u % P25) = rn at *
        go_upto_region 6 with fail
        refine wp_region_made v15.heap.size v15 rfl (by kernel_rfl) (Below.refl _ _) ?_
        refine wpQ_load_box rfl 27 _ rfl hX (by rfl) hX.lt Try.underlying27 rfl (by rw [gArr_size]; kernel_rfl) ?_
        simp only [Act.put, List.setIfInBounds_toArray, List.set_cons_zero, List.set_cons_succ]
        refine wpQ_load_box rfl 27 _ rfl hY (by rfl) hY.lt Try.underlying27 rfl (by rw [gArr_size]; kernel_rfl) ?_
        simp only [Act.put, List.setIfInBounds_toArray, List.set_cons_zero, List.set_cons_succ]
        refine wpQ_call rfl 33 #[.agg (gArr x.at), .agg (gArr y.at)] (fun w => by simp [go_sem]) _ (Nat.le_refl _) (Cxy.out) ?_
        simp only [Act.put, List.setIfInBounds_toArray, List.set_cons_zero, List.set_cons_succ]
        refine wpQ_load_box rfl 27 _ rfl hY (by rfl) hY.lt Try.underlying27 rfl (by rw [gArr_size]; kernel_rfl) ?_
        simp only [Act.put, List.setIfInBounds_toArray, List.set_cons_zero, List.set_cons_succ]
        refine wpQ_load_box rfl 27 _ rfl hX (by rfl) hX.lt Try.underlying27 rfl (by rw [gArr_size]; kernel_rfl) ?_
        simp only [Act.put, List.setIfInBounds_toArray, List.set_cons_zero, List.set_cons_succ]
        refine wpQ_call rfl 33 #[.agg (gArr y.at), .agg (gArr x.at)] (fun w => by simp [go_sem]) _ (Nat.le_refl _) (Cyx.out) ?_
        simp only [Act.put, List.setIfInBounds_toArray, List.set_cons_zero, List.set_cons_succ]
        refine wpQ_call rfl 23 #[.agg (gArr (x.add y).at), .agg (gArr (y.add x).at)] (fun w => by simp [go_sem]) _ (Nat.le_refl _) (S1.out) ?_
        simp only [Act.put, List.setIfInBounds_toArray, List.set_cons_zero, List.set_cons_succ]
        refine wpQ_run rfl (.bool false) (fun w hw => by simp [go_sem]) ?_
        simp only [Act.put, List.setIfInBounds_toArray, List.set_cons_zero, List.set_cons_succ]
        refine wpQ_run rfl (.bool false) (fun w hw => by simp [go_sem]) ?_
        simp only [Act.put, List.setIfInBounds_toArray, List.set_cons_zero, List.set_cons_succ]
        refine wpQ_load_box rfl 27 _ rfl hX (by rfl) hX.lt Try.underlying27 rfl (by rw [gArr_size]; kernel_rfl) ?_
        simp only [Act.put, List.setIfInBounds_toArray, List.set_cons_zero, List.set_cons_succ]
        refine wpQ_load_box rfl 27 _ rfl hY (by rfl) hY.lt Try.underlying27 rfl (by rw [gArr_size]; kernel_rfl) ?_
        simp only [Act.put, List.setIfInBounds_toArray, List.set_cons_zero, List.set_cons_succ]
        refine wpQ_call rfl 34 #[.agg (gArr x.at), .agg (gArr y.at)] (fun w => by simp [go_sem]) _ (Nat.le_refl _) (Mxy.out) ?_
        simp only [Act.put, List.setIfInBounds_toArray, List.set_cons_zero, List.set_cons_succ]
        refine wpQ_load_box rfl 27 _ rfl hY (by rfl) hY.lt Try.underlying27 rfl (by rw [gArr_size]; kernel_rfl) ?_
        simp only [Act.put, List.setIfInBounds_toArray, List.set_cons_zero, List.set_cons_succ]
        refine wpQ_load_box rfl 27 _ rfl hX (by rfl) hX.lt Try.underlying27 rfl (by rw [gArr_size]; kernel_rfl) ?_
        simp only [Act.put, List.setIfInBounds_toArray, List.set_cons_zero, List.set_cons_succ]
        refine wpQ_call rfl 34 #[.agg (gArr y.at), .agg (gArr x.at)] (fun w => by simp [go_sem]) _ (Nat.le_refl _) (Myx.out) ?_
        simp only [Act.put, List.setIfInBounds_toArray, List.set_cons_zero, List.set_cons_succ]
        refine wpQ_call rfl 23 #[.agg (gArr (x.mul y).at), .agg (gArr (y.mul x).at)] (fun w => by simp [go_sem]) _ (Nat.le_refl _) (S2.out) ?_
        simp only [Act.put, List.setIfInBounds_toArray, List.set_cons_zero, List.set_cons_succ]
        refine wpQ_run rfl (.bool false) (fun w hw => by simp [go_sem]) ?_
        simp only [Act.put, List.setIfInBounds_toArray, List.set_cons_zero, List.set_cons_succ]
        refine wpQ_run rfl (.bool false) (fun w hw => by simp [go_sem]) ?_
        simp only [Act.put, List.setIfInBounds_toArray, List.set_cons_zero, List.set_cons_succ]
        refine wpQ_run rfl (.bool false) (fun w hw => by simp [go_sem]) ?_
        simp only [Act.put, List.setIfInBounds_toArray, List.set_cons_zero, List.set_cons_succ]
        refine wpQ_load_box rfl 27 _ rfl hX (by rfl) hX.lt Try.underlying27 rfl (by rw [gArr_size]; kernel_rfl) ?_
        simp only [Act.put, List.setIfInBounds_toArray, List.set_cons_zero, List.set_cons_succ]
        refine wpQ_load_box rfl 27 _ rfl hY (by rfl) hY.lt Try.underlying27 rfl (by rw [gArr_size]; kernel_rfl) ?_
        simp only [Act.put, List.setIfInBounds_toArray, List.set_cons_zero, List.set_cons_succ]
        refine wpQ_call rfl 33 #[.agg (gArr x.at), .agg (gArr y.at)] (fun w => by simp [go_sem]) _ (Nat.le_refl _) (Cxy.out) ?_
        simp only [Act.put, List.setIfInBounds_toArray, List.set_cons_zero, List.set_cons_succ]
        refine wpQ_load_box rfl 27 _ rfl hZ (by rfl) hZ.lt Try.underlying27 rfl (by rw [gArr_size]; kernel_rfl) ?_
        simp only [Act.put, List.setIfInBounds_toArray, List.set_cons_zero, List.set_cons_succ]
        refine wpQ_call rfl 33 #[.agg (gArr (x.add y).at), .agg (gArr z.at)] (fun w => by simp [go_sem]) _ (Nat.le_refl _) (Cxyz.out) ?_
        simp only [Act.put, List.setIfInBounds_toArray, List.set_cons_zero, List.set_cons_succ]
        refine wpQ_load_box rfl 27 _ rfl hX (by rfl) hX.lt Try.underlying27 rfl (by rw [gArr_size]; kernel_rfl) ?_
        simp only [Act.put, List.setIfInBounds_toArray, List.set_cons_zero, List.set_cons_succ]
        refine wpQ_load_box rfl 27 _ rfl hY (by rfl) hY.lt Try.underlying27 rfl (by rw [gArr_size]; kernel_rfl) ?_
        simp only [Act.put, List.setIfInBounds_toArray, List.set_cons_zero, List.set_cons_succ]
        refine wpQ_load_box rfl 27 _ rfl hZ (by rfl) hZ.lt Try.underlying27 rfl (by rw [gArr_size]; kernel_rfl) ?_
        simp only [Act.put, List.setIfInBounds_toArray, List.set_cons_zero, List.set_cons_succ]
        refine wpQ_call rfl 33 #[.agg (gArr y.at), .agg (gArr z.at)] (fun w => by simp [go_sem]) _ (Nat.le_refl _) (Cyz.out) ?_
        simp only [Act.put, List.setIfInBounds_toArray, List.set_cons_zero, List.set_cons_succ]
        refine wpQ_call rfl 33 #[.agg (gArr x.at), .agg (gArr (y.add z).at)] (fun w => by simp [go_sem]) _ (Nat.le_refl _) (Cx_yz.out) ?_
        simp only [Act.put, List.setIfInBounds_toArray, List.set_cons_zero, List.set_cons_succ]
        refine wpQ_call rfl 23 #[.agg (gArr ((x.add y).add z).at), .agg (gArr (x.add (y.add z)).at)] (fun w => by simp [go_sem]) _ (Nat.le_refl _) (S3.out) ?_
        simp only [Act.put, List.setIfInBounds_toArray, List.set_cons_zero, List.set_cons_succ]
        refine wpQ_run rfl (.bool false) (fun w hw => by simp [go_sem]) ?_
        simp only [Act.put, List.setIfInBounds_toArray, List.set_cons_zero, List.set_cons_succ]
        refine wpQ_run rfl (.bool false) (fun w hw => by simp [go_sem]) ?_
        simp only [Act.put, List.setIfInBounds_toArray, List.set_cons_zero, List.set_cons_succ]
        refine wpQ_run rfl (.bool false) (fun w hw => by simp [go_sem]) ?_
        simp only [Act.put, List.setIfInBounds_toArray, List.set_cons_zero, List.set_cons_succ]
        refine wpQ_load_box rfl 27 _ rfl hX (by rfl) hX.lt Try.underlying27 rfl (by rw [gArr_size]; kernel_rfl) ?_
        simp only [Act.put, List.setIfInBounds_toArray, List.set_cons_zero, List.set_cons_succ]
        refine wpQ_load_box rfl 27 _ rfl hY (by rfl) hY.lt Try.underlying27 rfl (by rw [gArr_size]; kernel_rfl) ?_
        simp only [Act.put, List.setIfInBounds_toArray, List.set_cons_zero, List.set_cons_succ]
        refine wpQ_call rfl 34 #[.agg (gArr x.at), .agg (gArr y.at)] (fun w => by simp [go_sem]) _ (Nat.le_refl _) (Mxy.out) ?_
        simp only [Act.put, List.setIfInBounds_toArray, List.set_cons_zero, List.set_cons_succ]
        refine wpQ_load_box rfl 27 _ rfl hZ (by rfl) hZ.lt Try.underlying27 rfl (by rw [gArr_size]; kernel_rfl) ?_
        simp only [Act.put, List.setIfInBounds_toArray, List.set_cons_zero, List.set_cons_succ]
        refine wpQ_call rfl 34 #[.agg (gArr (x.mul y).at), .agg (gArr z.at)] (fun w => by simp [go_sem]) _ (Nat.le_refl _) (Mxyz.out) ?_
        simp only [Act.put, List.setIfInBounds_toArray, List.set_cons_zero, List.set_cons_succ]
        refine wpQ_load_box rfl 27 _ rfl hX (by rfl) hX.lt Try.underlying27 rfl (by rw [gArr_size]; kernel_rfl) ?_
        simp only [Act.put, List.setIfInBounds_toArray, List.set_cons_zero, List.set_cons_succ]
        refine wpQ_load_box rfl 27 _ rfl hY (by rfl) hY.lt Try.underlying27 rfl (by rw [gArr_size]; kernel_rfl) ?_
        simp only [Act.put, List.setIfInBounds_toArray, List.set_cons_zero, List.set_cons_succ]
        refine wpQ_load_box rfl 27 _ rfl hZ (by rfl) hZ.lt Try.underlying27 rfl (by rw [gArr_size]; kernel_rfl) ?_
        simp only [Act.put, List.setIfInBounds_toArray, List.set_cons_zero, List.set_cons_succ]
        refine wpQ_call rfl 34 #[.agg (gArr y.at), .agg (gArr z.at)] (fun w => by simp [go_sem]) _ (Nat.le_refl _) (Myz.out) ?_
        simp only [Act.put, List.setIfInBounds_toArray, List.set_cons_zero, List.set_cons_succ]
        refine wpQ_call rfl 34 #[.agg (gArr x.at), .agg (gArr (y.mul z).at)] (fun w => by simp [go_sem]) _ (Nat.le_refl _) (Mx_yz.out) ?_
        simp only [Act.put, List.setIfInBounds_toArray, List.set_cons_zero, List.set_cons_succ]
        refine wpQ_call rfl 23 #[.agg (gArr ((x.mul y).mul z).at), .agg (gArr (x.mul (y.mul z)).at)] (fun w => by simp [go_sem]) _ (Nat.le_refl _) (S4.out) ?_
        simp only [Act.put, List.setIfInBounds_toArray, List.set_cons_zero, List.set_cons_succ]
        refine wpQ_run rfl (.bool false) (fun w hw => by simp [go_sem]) ?_
        simp only [Act.put, List.setIfInBounds_toArray, List.set_cons_zero, List.set_cons_succ]
        refine wpQ_run rfl (.bool false) (fun w hw => by simp [go_sem]) ?_
        simp only [Act.put, List.setIfInBounds_toArray, List.set_cons_zero, List.set_cons_succ]
        refine wpQ_run rfl (.bool false) (fun w hw => by simp [go_sem]) ?_
        simp only [Act.put, List.setIfInBounds_toArray, List.set_cons_zero, List.set_cons_succ]
        refine wpQ_load_box rfl 27 _ rfl hX (by rfl) hX.lt Try.underlying27 rfl (by rw [gArr_size]; kernel_rfl) ?_
        simp only [Act.put, List.setIfInBounds_toArray, List.set_cons_zero, List.set_cons_succ]
        refine wpQ_load_box rfl 27 _ rfl hY (by rfl) hY.lt Try.underlying27 rfl (by rw [gArr_size]; kernel_rfl) ?_
        simp only [Act.put, List.setIfInBounds_toArray, List.set_cons_zero, List.set_cons_succ]
        refine wpQ_load_box rfl 27 _ rfl hZ (by rfl) hZ.lt Try.underlying27 rfl (by rw [gArr_size]; kernel_rfl) ?_
        simp only [Act.put, List.setIfInBounds_toArray, List.set_cons_zero, List.set_cons_succ]
        refine wpQ_call rfl 33 #[.agg (gArr y.at), .agg (gArr z.at)] (fun w => by simp [go_sem]) _ (Nat.le_refl _) (Cyz.out) ?_
        simp only [Act.put, List.setIfInBounds_toArray, List.set_cons_zero, List.set_cons_succ]
        refine wpQ_call rfl 34 #[.agg (gArr x.at), .agg (gArr (y.add z).at)] (fun w => by simp [go_sem]) _ (Nat.le_refl _) (Mxs.out) ?_
        simp only [Act.put, List.setIfInBounds_toArray, List.set_cons_zero, List.set_cons_succ]
        refine wpQ_load_box rfl 27 _ rfl hX (by rfl) hX.lt Try.underlying27 rfl (by rw [gArr_size]; kernel_rfl) ?_
        simp only [Act.put, List.setIfInBounds_toArray, List.set_cons_zero, List.set_cons_succ]
        refine wpQ_load_box rfl 27 _ rfl hY (by rfl) hY.lt Try.underlying27 rfl (by rw [gArr_size]; kernel_rfl) ?_
        simp only [Act.put, List.setIfInBounds_toArray, List.set_cons_zero, List.set_cons_succ]
        refine wpQ_call rfl 34 #[.agg (gArr x.at), .agg (gArr y.at)] (fun w => by simp [go_sem]) _ (Nat.le_refl _) (Mxy.out) ?_
        simp only [Act.put, List.setIfInBounds_toArray, List.set_cons_zero, List.set_cons_succ]
        refine wpQ_load_box rfl 27 _ rfl hX (by rfl) hX.lt Try.underlying27 rfl (by rw [gArr_size]; kernel_rfl) ?_
        simp only [Act.put, List.setIfInBounds_toArray, List.set_cons_zero, List.set_cons_succ]
        refine wpQ_load_box rfl 27 _ rfl hZ (by rfl) hZ.lt Try.underlying27 rfl (by rw [gArr_size]; kernel_rfl) ?_
        simp only [Act.put, List.setIfInBounds_toArray, List.set_cons_zero, List.set_cons_succ]
        refine wpQ_call rfl 34 #[.agg (gArr x.at), .agg (gArr z.at)] (fun w => by simp [go_sem]) _ (Nat.le_refl _) (Mxz.out) ?_
        simp only [Act.put, List.setIfInBounds_toArray, List.set_cons_zero, List.set_cons_succ]
        refine wpQ_call rfl 33 #[.agg (gArr (x.mul y).at), .agg (gArr (x.mul z).at)] (fun w => by simp [go_sem]) _ (Nat.le_refl _) (Cd.out) ?_
        simp only [Act.put, List.setIfInBounds_toArray, List.set_cons_zero, List.set_cons_succ]
        refine wpQ_call rfl 23 #[.agg (gArr (x.mul (y.add z)).at), .agg (gArr ((x.mul y).add (x.mul z)).at)] (fun w => by simp [go_sem]) _ (Nat.le_refl _) (S5.out) ?_
        simp only [Act.put, List.setIfInBounds_toArray, List.set_cons_zero, List.set_cons_succ]
        refine wpQ_run rfl (.bool false) (fun w hw => by simp [go_sem]) ?_
        simp only [Act.put, List.setIfInBounds_toArray, List.set_cons_zero, List.set_cons_succ]
        refine wpQ_run rfl (.bool false) (fun w hw => by simp [go_sem]) ?_
        simp only [Act.put, List.setIfInBounds_toArray, List.set_cons_zero, List.set_cons_succ]
        refine wpQ_run rfl (.bool false) (fun w hw => by simp [go_sem]) ?_
        simp only [Act.put, List.setIfInBounds_toArray, List.set_cons_zero, List.set_cons_succ]
        refine wpQ_load_box rfl 27 _ rfl hX (by rfl) hX.lt Try.underlying27 rfl (by rw [gArr_size]; kernel_rfl) ?_
        simp only [Act.put, List.setIfInBounds_toArray, List.set_cons_zero, List.set_cons_succ]
        refine wpQ_load_box rfl 27 _ rfl hY (by rfl) hY.lt Try.underlying27 rfl (by rw [gArr_size]; kernel_rfl) ?_
        simp only [Act.put, List.setIfInBounds_toArray, List.set_cons_zero, List.set_cons_succ]
        refine wpQ_call rfl 35 #[.agg (gArr x.at), .agg (gArr y.at)] (fun w => by simp [go_sem]) _ (Nat.le_refl _) (Dxy.out) ?_
        simp only [Act.put, List.setIfInBounds_toArray, List.set_cons_zero, List.set_cons_succ]
        refine wpQ_load_box rfl 27 _ rfl hY (by rfl) hY.lt Try.underlying27 rfl (by rw [gArr_size]; kernel_rfl) ?_
        simp only [Act.put, List.setIfInBounds_toArray, List.set_cons_zero, List.set_cons_succ]
        refine wpQ_call rfl 33 #[.agg (gArr (x.sub y).at), .agg (gArr y.at)] (fun w => by simp [go_sem]) _ (Nat.le_refl _) (Cdy.out) ?_
        simp only [Act.put, List.setIfInBounds_toArray, List.set_cons_zero, List.set_cons_succ]
        refine wpQ_load_box rfl 27 _ rfl hX (by rfl) hX.lt Try.underlying27 rfl (by rw [gArr_size]; kernel_rfl) ?_
        simp only [Act.put, List.setIfInBounds_toArray, List.set_cons_zero, List.set_cons_succ]
        refine wpQ_call rfl 23 #[.agg (gArr ((x.sub y).add y).at), .agg (gArr x.at)] (fun w => by simp [go_sem]) _ (Nat.le_refl _) (S6.out) ?_
        simp only [Act.put, List.setIfInBounds_toArray, List.set_cons_zero, List.set_cons_succ]
        refine wpQ_run rfl (.bool false) (fun w hw => by simp [go_sem]) ?_
        simp only [Act.put, List.setIfInBounds_toArray, List.set_cons_zero, List.set_cons_succ]
        refine wpQ_run rfl (.bool false) (fun w hw => by simp [go_sem]) ?_
        simp only [Act.put, List.setIfInBounds_toArray, List.set_cons_zero, List.set_cons_succ]
        intro v16 bv16
        replace hX := hX.after bv16
        replace hY := hY.after bv16
        replace hZ := hZ.after bv16
        replace hB := hB.trans (bv16.mono hS)
        replace hS := Nat.le_trans hS bv16.size
        clear bv16
        go_upto_region 8 with fail
        go_step
        refine wpList_load_box rfl 27 _ rfl hX (by rfl) Try.underlying27 rfl (by rw [gArr_size]; kernel_rfl) ?_
        simp only [Act.put, List.setIfInBounds_toArray, List.set_cons_zero, List.set_cons_succ]
        refine wpList_load_box rfl 27 _ rfl hX (by rfl) Try.underlying27 rfl (by rw [gArr_size]; kernel_rfl) ?_
        simp only [Act.put, List.setIfInBounds_toArray, List.set_cons_zero, List.set_cons_succ]
        refine wpList_made_call rfl 34 #[.agg (gArr x.at), .agg (gArr x.at)] (by simp [go_sem]) _ (Mxx.out _) ?_
        intro v17 bv17
        simp only [Act.put, List.setIfInBounds_toArray, List.set_cons_zero, List.set_cons_succ]
        replace hX := hX.after bv17
        replace hY := hY.after bv17
        replace hZ := hZ.after bv17
        replace hB := hB.trans (bv17.mono hS)
        replace hS := Nat.le_trans hS bv17.size
        clear bv17
        refine wpList_enterR rfl 41 #[.agg (gArr (x.mul x).at)] (by simp [go_sem]) _ (HROOT.out _) ?_
        rintro e v18 ⟨r, rfl, hr, bv18⟩
        refine ⟨_, rfl, ?_⟩
        simp only [Act.put, List.setIfInBounds_toArray, List.set_cons_zero, List.set_cons_succ]
        replace hX := hX.after bv18
        replace hY := hY.after bv18
        replace hZ := hZ.after bv18
        replace hB := hB.trans (bv18.mono hS)
        replace hS := Nat.le_trans hS bv18.size
        clear bv18
        have HR := Lib.hid hr
        clear hr
        refine wpList_value rfl (.tuple #[.agg (gArr r.at), .bool true]) (by simp [go_sem]) ?_
        simp only [Act.put, List.setIfInBounds_toArray, List.set_cons_zero, List.set_cons_succ]
        refine wpList_value rfl (.agg (gArr r.at)) (by simp [go_sem]) ?_
        simp only [Act.put, List.setIfInBounds_toArray, List.set_cons_zero, List.set_cons_succ]
        refine wpList_value rfl (.bool true) (by simp [go_sem]) ?_
        simp only [Act.put, List.setIfInBounds_toArray, List.set_cons_zero, List.set_cons_succ]
        refine wpList_new rfl 27 rfl #[.int .u64 0, .int .u64 0, .int .u64 0, .int .u64 0, .int .u64 0] (by intro w; simp [go_sem]) ?_
        intro gR v19 hR lR bv19
        simp only [Act.put, List.setIfInBounds_toArray, List.set_cons_zero, List.set_cons_succ]
        have n_X_R := hX.before lR
        have n_R_X := hX.behind lR
        have n_Y_R := hY.before lR
        have n_R_Y := hY.behind lR
        have n_Z_R := hZ.before lR
        have n_R_Z := hZ.behind lR
        replace lR := Nat.le_trans hS lR
        replace hX := hX.after bv19
        replace hY := hY.after bv19
        replace hZ := hZ.after bv19
        replace hB := hB.trans (bv19.mono hS)
        replace hS := Nat.le_trans hS bv19.size
        clear bv19
        refine wpList_store_box (cells := gArr r.at) rfl 27 (.tmp 16) (.tmp 124) rfl hR (by rfl) (by rfl) (by rw [gArr_size]; rfl) (by rw [gArr_size]; kernel_rfl) (gArr_one _) ?_
        intro v20 hR_ stv20
        simp only [Act.put]
        replace hX := stv20.box hX n_X_R
        replace hY := stv20.box hY n_Y_R
        replace hZ := stv20.box hZ n_Z_R
        replace hB := stv20.below w.heap.size w lR hB
        replace hS := Nat.le_trans hS (Nat.le_of_eq stv20.size.symm)
        clear hR stv20
        have hR := hR_
        clear hR_
        refine wpList_value rfl (.bool true) (by simp [go_sem]) ?_
        simp only [Act.put, List.setIfInBounds_toArray, List.set_cons_zero, List.set_cons_succ]
        have HSR := Lib.hid (fun w : World => same_el HR.out HX.out w)
        have HAR := Lib.hid (fun w : World => add_el HR.out HX.out w)
        have HSZ := Lib.hid (fun w : World => same_el (el_add HR.out HX.out) el_zero w)
        have HOR := Lib.hid HSQ.out.2
        by_cases hq : rn = u
        · rw [show (rn == u) = true by simp [hq]] at HSR
          clear hq
          go_upto_region 9 with fail
          go_step
          refine wpList_made 17 v20.heap.size v20 (Below.refl _ _) ?_
          simp only [List.take_succ_cons, List.take_zero, List.drop_succ_cons, List.drop_zero]
          refine wpQ_run rfl (.bool true) (fun w hw => by simp [go_sem]) ?_
          simp only [Act.put, List.setIfInBounds_toArray, List.set_cons_zero, List.set_cons_succ]
          refine wpQ_run rfl (.bool true) (fun w hw => by simp [go_sem]) ?_
          simp only [Act.put, List.setIfInBounds_toArray, List.set_cons_zero, List.set_cons_succ]
          refine wpQ_load_box rfl 27 _ rfl hR (by rfl) hR.lt Try.underlying27 rfl (by rw [gArr_size]; kernel_rfl) ?_
          simp only [Act.put, List.setIfInBounds_toArray, List.set_cons_zero, List.set_cons_succ]
          refine wpQ_load_box rfl 27 _ rfl hX (by rfl) hX.lt Try.underlying27 rfl (by rw [gArr_size]; kernel_rfl) ?_
          simp only [Act.put, List.setIfInBounds_toArray, List.set_cons_zero, List.set_cons_succ]
          refine wpQ_call rfl 23 #[.agg (gArr r.at), .agg (gArr x.at)] (fun w => by simp [go_sem]) _ (Nat.le_refl _) (HSR.out) ?_
          simp only [Act.put, List.setIfInBounds_toArray, List.set_cons_zero, List.set_cons_succ]
          refine wpQ_run rfl (.bool true) (fun w hw => by simp [go_sem]) ?_
          simp only [Act.put, List.setIfInBounds_toArray, List.set_cons_zero, List.set_cons_succ]
          refine wpQ_skip rfl ?_
          simp only [Act.put, List.setIfInBounds_toArray, List.set_cons_zero, List.set_cons_succ]
          refine wpQ_skip rfl ?_
          simp only [Act.put, List.setIfInBounds_toArray, List.set_cons_zero, List.set_cons_succ]
          refine wpQ_skip rfl ?_
          simp only [Act.put, List.setIfInBounds_toArray, List.set_cons_zero, List.set_cons_succ]
          refine wpQ_skip rfl ?_
          simp only [Act.put, List.setIfInBounds_toArray, List.set_cons_zero, List.set_cons_succ]
          refine wpQ_skip rfl ?_
          simp only [Act.put, List.setIfInBounds_toArray, List.set_cons_zero, List.set_cons_succ]
          refine wpQ_run rfl (.bool true) (fun w hw => by simp [go_sem]) ?_
          simp only [Act.put, List.setIfInBounds_toArray, List.set_cons_zero, List.set_cons_succ]
          refine wpQ_run rfl (.bool true) (fun w hw => by simp [go_sem]) ?_
          simp only [Act.put, List.setIfInBounds_toArray, List.set_cons_zero, List.set_cons_succ]
          refine wpQ_run rfl (.bool true) (fun w hw => by simp [go_sem]) ?_
          simp only [Act.put, List.setIfInBounds_toArray, List.set_cons_zero, List.set_cons_succ]
          refine wpQ_call rfl 18 #[] (fun w => by simp [go_sem]) _ (Nat.le_refl _) (awakeF_any) ?_
          simp only [Act.put, List.setIfInBounds_toArray, List.set_cons_zero, List.set_cons_succ]
          refine wpQ_run rfl (.bool true) (fun w hw => by simp [go_sem]) ?_
          simp only [Act.put, List.setIfInBounds_toArray, List.set_cons_zero, List.set_cons_succ]
          refine wpQ_run rfl (.bool true) (fun w hw => by simp [go_sem]) ?_
          simp only [Act.put, List.setIfInBounds_toArray, List.set_cons_zero, List.set_cons_succ]
          intro v21 bv21
          replace hX := hX.after bv21
          replace hY := hY.after bv21
          replace hZ := hZ.after bv21
          replace hR := hR.after bv21
          replace hB := hB.trans (bv21.mono hS)
          replace hS := Nat.le_trans hS bv21.size
          clear bv21
          clear hX hY hZ hR
          go_wp2_with fail
          go_ret
          exact ⟨rfl, hB⟩
        · rw [show (rn == u) = false by simp [hq]] at HSR
          rw [HOR.out.resolve_left hq] at HSZ
          clear hq
          go_upto_region 9 with fail
          go_step
          refine wpList_made 17 v20.heap.size v20 (Below.refl _ _) ?_
          simp only [List.take_succ_cons, List.take_zero, List.drop_succ_cons, List.drop_zero]
          refine wpQ_run rfl (.bool true) (fun w hw => by simp [go_sem]) ?_
          simp only [Act.put, List.setIfInBounds_toArray, List.set_cons_zero, List.set_cons_succ]
          refine wpQ_run rfl (.bool true) (fun w hw => by simp [go_sem]) ?_
          simp only [Act.put, List.setIfInBounds_toArray, List.set_cons_zero, List.set_cons_succ]
          refine wpQ_load_box rfl 27 _ rfl hR (by rfl) hR.lt Try.underlying27 rfl (by rw [gArr_size]; kernel_rfl) ?_
          simp only [Act.put, List.setIfInBounds_toArray, List.set_cons_zero, List.set_cons_succ]
          refine wpQ_load_box rfl 27 _ rfl hX (by rfl) hX.lt Try.underlying27 rfl (by rw [gArr_size]; kernel_rfl) ?_
          simp only [Act.put, List.setIfInBounds_toArray, List.set_cons_zero, List.set_cons_succ]
          refine wpQ_call rfl 23 #[.agg (gArr r.at), .agg (gArr x.at)] (fun w => by simp [go_sem]) _ (Nat.le_refl _) (HSR.out) ?_
          simp only [Act.put, List.setIfInBounds_toArray, List.set_cons_zero, List.set_cons_succ]
          refine wpQ_run rfl (.bool false) (fun w hw => by simp [go_sem]) ?_
          simp only [Act.put, List.setIfInBounds_toArray, List.set_cons_zero, List.set_cons_succ]
          refine wpQ_load_box rfl 27 _ rfl hR (by rfl) hR.lt Try.underlying27 rfl (by rw [gArr_size]; kernel_rfl) ?_
          simp only [Act.put, List.setIfInBounds_toArray, List.set_cons_zero, List.set_cons_succ]
          refine wpQ_load_box rfl 27 _ rfl hX (by rfl) hX.lt Try.underlying27 rfl (by rw [gArr_size]; kernel_rfl) ?_
          simp only [Act.put, List.setIfInBounds_toArray, List.set_cons_zero, List.set_cons_succ]
          refine wpQ_call rfl 33 #[.agg (gArr r.at), .agg (gArr x.at)] (fun w => by simp [go_sem]) _ (Nat.le_refl _) (HAR.out) ?_
          simp only [Act.put, List.setIfInBounds_toArray, List.set_cons_zero, List.set_cons_succ]
          refine wpQ_run rfl (.agg (gArr L5.zero.at)) (fun w hw => by simp [go_sem]; rfl) ?_
          simp only [Act.put, List.setIfInBounds_toArray, List.set_cons_zero, List.set_cons_succ]
          refine wpQ_call rfl 23 #[.agg (gArr (r.add x).at), .agg (gArr L5.zero.at)] (fun w => by simp [go_sem]) _ (Nat.le_refl _) (HSZ.out) ?_
          simp only [Act.put, List.setIfInBounds_toArray, List.set_cons_zero, List.set_cons_succ]
          refine wpQ_run rfl (.bool true) (fun w hw => by simp [go_sem]) ?_
          simp only [Act.put, List.setIfInBounds_toArray, List.set_cons_zero, List.set_cons_succ]
          refine wpQ_run rfl (.bool true) (fun w hw => by simp [go_sem]) ?_
          simp only [Act.put, List.setIfInBounds_toArray, List.set_cons_zero, List.set_cons_succ]
          refine wpQ_run rfl (.bool true) (fun w hw => by simp [go_sem]) ?_
          simp only [Act.put, List.setIfInBounds_toArray, List.set_cons_zero, List.set_cons_succ]
          refine wpQ_call rfl 18 #[] (fun w => by simp [go_sem]) _ (Nat.le_refl _) (awakeF_any) ?_
          simp only [Act.put, List.setIfInBounds_toArray, List.set_cons_zero, List.set_cons_succ]
          refine wpQ_run rfl (.bool true) (fun w hw => by simp [go_sem]) ?_
          simp only [Act.put, List.setIfInBounds_toArray, List.set_cons_zero, List.set_cons_succ]
          refine wpQ_run rfl (.bool true) (fun w hw => by simp [go_sem]) ?_
          simp only [Act.put, List.setIfInBounds_toArray, List.set_cons_zero, List.set_cons_succ]
          intro v21 bv21
          replace hX := hX.after bv21
          replace hY := hY.after bv21
          replace hZ := hZ.after bv21
          replace hR := hR.after bv21
          replace hB := hB.trans (bv21.mono hS)
          replace hS := Nat.le_trans hS bv21.size
          clear bv21
          clear hX hY hZ hR
          go_wp2_with fail
          go_ret
          exact ⟨rfl, hB⟩
end Go.Proofs.Ytddgkoheihlbdaa

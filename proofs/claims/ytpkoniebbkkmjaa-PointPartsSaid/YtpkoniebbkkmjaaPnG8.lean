/- Points: the document's sums; the other side; whether two are the same. Points: the program's other side. -/
import Derived.Test.YtpkoniebbkkmjaaPnG7
namespace Go.Proofs.Ytpkoniebbkkmjaa
open Go.RowKit
attribute [local irreducible] fi dN xx rtN rtOk pw fa fs fm

def qG (d u v n ub vb nb : Nat) : Nat := fs (fm (fm n nb) (fm n nb)) (fm (fm d (fm u ub)) (fm v vb))
def qH (d u v n ub vb nb : Nat) : Nat := fa (fm (fm n nb) (fm n nb)) (fm (fm d (fm u ub)) (fm v vb))
def qX (d u v n ub vb nb : Nat) : Nat := fm (fm (fm n nb) (qG d u v n ub vb nb)) (fs (fs (fm (fa u v) (fa ub vb)) (fm u ub)) (fm v vb))
def qY (d u v n ub vb nb : Nat) : Nat := fm (fm (fm n nb) (qH d u v n ub vb nb)) (fa (fm v vb) (fm u ub))
def qZ (d u v n ub vb nb : Nat) : Nat := fm (qG d u v n ub vb nb) (qH d u v n ub vb nb)
set_option linter.unusedSimpArgs false in
set_option maxRecDepth 100000 in
set_option maxHeartbeats 20000000 in
theorem refPtAdd0_any (u v n ub vb nb d : Nat) (hp : u < P25 ∧ v < P25 ∧ n < P25) (hq : ub < P25 ∧ vb < P25 ∧ nb < P25) (hd : d < P25) (w : World) : Calls Try.prog 46 #[.agg (qArr u v n), .agg (qArr ub vb nb), .agg (fArr (dig d))] w fun e w' => e = .returned (.agg (qArr (qX d u v n ub vb nb) (qY d u v n ub vb nb) (qZ d u v n ub vb nb))) ∧ Below w.heap.size w w' := by
  unfold qX qY qZ qG qH
  have hu := hp.1
  have hv := hp.2.1
  have hn := hp.2.2
  have hub := hq.1
  have hvb := hq.2.1
  have hnb := hq.2.2
  have C_A := Lib.hid (rMul n nb hn hnb)
  have l_A := fm_lt n nb
  generalize fm n nb = A at *
  have C_B := Lib.hid (rMul A A l_A l_A)
  have l_B := fm_lt A A
  generalize fm A A = B at *
  have C_C := Lib.hid (rMul u ub hu hub)
  have l_C := fm_lt u ub
  generalize fm u ub = C at *
  have C_E0 := Lib.hid (rMul v vb hv hvb)
  have l_E0 := fm_lt v vb
  generalize fm v vb = E0 at *
  have C_F1 := Lib.hid (rMul d C hd l_C)
  have l_F1 := fm_lt d C
  generalize fm d C = F1 at *
  have C_F2 := Lib.hid (rMul F1 E0 l_F1 l_E0)
  have l_F2 := fm_lt F1 E0
  generalize fm F1 E0 = F2 at *
  have C_G := Lib.hid (rSub B F2 l_B l_F2)
  have l_G := fs_lt B F2
  generalize fs B F2 = G at *
  have C_H := Lib.hid (rAdd B F2 l_B l_F2)
  have l_H := fa_lt B F2
  generalize fa B F2 = H at *
  have C_K1 := Lib.hid (rAdd u v hu hv)
  have l_K1 := fa_lt u v
  generalize fa u v = K1 at *
  have C_K2 := Lib.hid (rAdd ub vb hub hvb)
  have l_K2 := fa_lt ub vb
  generalize fa ub vb = K2 at *
  have C_K3 := Lib.hid (rMul K1 K2 l_K1 l_K2)
  have l_K3 := fm_lt K1 K2
  generalize fm K1 K2 = K3 at *
  have C_K4 := Lib.hid (rSub K3 C l_K3 l_C)
  have l_K4 := fs_lt K3 C
  generalize fs K3 C = K4 at *
  have C_K := Lib.hid (rSub K4 E0 l_K4 l_E0)
  have l_K := fs_lt K4 E0
  generalize fs K4 E0 = K at *
  have C_X1 := Lib.hid (rMul A G l_A l_G)
  have l_X1 := fm_lt A G
  generalize fm A G = X1 at *
  have C_X3 := Lib.hid (rMul X1 K l_X1 l_K)
  have l_X3 := fm_lt X1 K
  generalize fm X1 K = X3 at *
  have C_Y1 := Lib.hid (rMul A H l_A l_H)
  have l_Y1 := fm_lt A H
  generalize fm A H = Y1 at *
  have C_Y2 := Lib.hid (rAdd E0 C l_E0 l_C)
  have l_Y2 := fa_lt E0 C
  generalize fa E0 C = Y2 at *
  have C_Y3 := Lib.hid (rMul Y1 Y2 l_Y1 l_Y2)
  have l_Y3 := fm_lt Y1 Y2
  generalize fm Y1 Y2 = Y3 at *
  have C_Z3 := Lib.hid (rMul G H l_G l_H)
  have l_Z3 := fm_lt G H
  generalize fm G H = Z3 at *
  clear hp hq hu hv hn hub hvb hnb hd l_A l_B l_C l_E0 l_F1 l_F2 l_G l_H l_K1 l_K2 l_K3 l_K4 l_K l_X1 l_X3 l_Y1 l_Y2 l_Y3 l_Z3
  go_enter Try.func46, Try.ntmps46
  go_upto_region 1 with fail
  have hP : Box ((((w.alloc (.cells (qArr u v n) 36)).alloc (.cells (qArr ub vb nb) 36)).alloc (.cells (fArr (dig d)) 34)).alloc (.cells (Array.replicate 48 (Value.int .u64 0)) 36)) w.heap.size 36 (qArr u v n) := ((((Box.new w 36 (qArr u v n)).alloc (.cells (qArr ub vb nb) 36)).alloc (.cells (fArr (dig d)) 34)).alloc (.cells (Array.replicate 48 (Value.int .u64 0)) 36))
  have lP : w.heap.size ≤ w.heap.size := by omega
  have hQ : Box ((((w.alloc (.cells (qArr u v n) 36)).alloc (.cells (qArr ub vb nb) 36)).alloc (.cells (fArr (dig d)) 34)).alloc (.cells (Array.replicate 48 (Value.int .u64 0)) 36)) (w.heap.size + 1) 36 (qArr ub vb nb) := by
    have := (((Box.new (w.alloc (.cells (qArr u v n) 36)) 36 (qArr ub vb nb)).alloc (.cells (fArr (dig d)) 34)).alloc (.cells (Array.replicate 48 (Value.int .u64 0)) 36))
    simp only [World.size_alloc] at this
    exact this
  have lQ : w.heap.size ≤ (w.heap.size + 1) := by omega
  have n_P_Q : w.heap.size ≠ (w.heap.size + 1) := by omega
  have n_Q_P : (w.heap.size + 1) ≠ w.heap.size := by omega
  have hD : Box ((((w.alloc (.cells (qArr u v n) 36)).alloc (.cells (qArr ub vb nb) 36)).alloc (.cells (fArr (dig d)) 34)).alloc (.cells (Array.replicate 48 (Value.int .u64 0)) 36)) (w.heap.size + 2) 34 (fArr (dig d)) := by
    have := ((Box.new ((w.alloc (.cells (qArr u v n) 36)).alloc (.cells (qArr ub vb nb) 36)) 34 (fArr (dig d))).alloc (.cells (Array.replicate 48 (Value.int .u64 0)) 36))
    simp only [World.size_alloc, Nat.add_assoc, Nat.reduceAdd] at this
    exact this
  have lD : w.heap.size ≤ (w.heap.size + 2) := by omega
  have n_P_D : w.heap.size ≠ (w.heap.size + 2) := by omega
  have n_D_P : (w.heap.size + 2) ≠ w.heap.size := by omega
  have n_Q_D : (w.heap.size + 1) ≠ (w.heap.size + 2) := by omega
  have n_D_Q : (w.heap.size + 2) ≠ (w.heap.size + 1) := by omega
  have hR : Box ((((w.alloc (.cells (qArr u v n) 36)).alloc (.cells (qArr ub vb nb) 36)).alloc (.cells (fArr (dig d)) 34)).alloc (.cells (Array.replicate 48 (Value.int .u64 0)) 36)) (w.heap.size + 3) 36 (Array.replicate 48 (Value.int .u64 0)) := by
    have := (Box.new (((w.alloc (.cells (qArr u v n) 36)).alloc (.cells (qArr ub vb nb) 36)).alloc (.cells (fArr (dig d)) 34)) 36 (Array.replicate 48 (Value.int .u64 0)))
    simp only [World.size_alloc, Nat.add_assoc, Nat.reduceAdd] at this
    exact this
  have lR : w.heap.size ≤ (w.heap.size + 3) := by omega
  have n_P_R : w.heap.size ≠ (w.heap.size + 3) := by omega
  have n_R_P : (w.heap.size + 3) ≠ w.heap.size := by omega
  have n_Q_R : (w.heap.size + 1) ≠ (w.heap.size + 3) := by omega
  have n_R_Q : (w.heap.size + 3) ≠ (w.heap.size + 1) := by omega
  have n_D_R : (w.heap.size + 2) ≠ (w.heap.size + 3) := by omega
  have n_R_D : (w.heap.size + 3) ≠ (w.heap.size + 2) := by omega
  have hB : Below w.heap.size w ((((w.alloc (.cells (qArr u v n) 36)).alloc (.cells (qArr ub vb nb) 36)).alloc (.cells (fArr (dig d)) 34)).alloc (.cells (Array.replicate 48 (Value.int .u64 0)) 36)) := (((((Below.refl w.heap.size w).alloc (by simp; try omega) (.cells (qArr u v n) 36)).alloc (by simp; try omega) (.cells (qArr ub vb nb) 36)).alloc (by simp; try omega) (.cells (fArr (dig d)) 34)).alloc (by simp; try omega) (.cells (Array.replicate 48 (Value.int .u64 0)) 36))
  have hS := hB.size
  change Code.wp _ _ _ _ ((((w.alloc (.cells (qArr u v n) 36)).alloc (.cells (qArr ub vb nb) 36)).alloc (.cells (fArr (dig d)) 34)).alloc (.cells (Array.replicate 48 (Value.int .u64 0)) 36))
  generalize ((((w.alloc (.cells (qArr u v n) 36)).alloc (.cells (qArr ub vb nb) 36)).alloc (.cells (fArr (dig d)) 34)).alloc (.cells (Array.replicate 48 (Value.int .u64 0)) 36)) = v0 at *
  go_step
  refine wpList_value rfl (.pointer (some ⟨w.heap.size, 32, none⟩)) (by simp [go_sem]) ?_
  simp only [Act.put, List.setIfInBounds_toArray, List.set_cons_zero, List.set_cons_succ]
  refine wpList_value rfl (.agg (fArr (dig n))) (run_load_mid rfl (q_z hP) (by rfl) Try.underlying34 rfl (by rw [fArr_size]; kernel_rfl)) ?_
  simp only [Act.put, List.setIfInBounds_toArray, List.set_cons_zero, List.set_cons_succ]
  refine wpList_value rfl (.pointer (some ⟨(w.heap.size + 1), 32, none⟩)) (by simp [go_sem]) ?_
  simp only [Act.put, List.setIfInBounds_toArray, List.set_cons_zero, List.set_cons_succ]
  refine wpList_value rfl (.agg (fArr (dig nb))) (run_load_mid rfl (q_z hQ) (by rfl) Try.underlying34 rfl (by rw [fArr_size]; kernel_rfl)) ?_
  simp only [Act.put, List.setIfInBounds_toArray, List.set_cons_zero, List.set_cons_succ]
  refine wpList_made_call rfl 48 #[.agg (fArr (dig n)), .agg (fArr (dig nb))] (by simp [go_sem]) _ (C_A.out _) ?_
  intro v1 bv1
  simp only [Act.put, List.setIfInBounds_toArray, List.set_cons_zero, List.set_cons_succ]
  replace hP := hP.after bv1
  replace hQ := hQ.after bv1
  replace hD := hD.after bv1
  replace hR := hR.after bv1
  replace hB := hB.trans (bv1.mono hS)
  replace hS := Nat.le_trans hS bv1.size
  clear bv1
  refine wpList_new rfl 34 rfl (Array.replicate 16 (Value.int .u64 0)) (by intro w; simp [go_sem]; rfl) ?_
  intro g_A v2 h_A l_A bv2
  simp only [Act.put, List.setIfInBounds_toArray, List.set_cons_zero, List.set_cons_succ]
  have n_P__A := hP.before l_A
  have n__A_P := hP.behind l_A
  have n_Q__A := hQ.before l_A
  have n__A_Q := hQ.behind l_A
  have n_D__A := hD.before l_A
  have n__A_D := hD.behind l_A
  have n_R__A := hR.before l_A
  have n__A_R := hR.behind l_A
  replace l_A := Nat.le_trans hS l_A
  replace hP := hP.after bv2
  replace hQ := hQ.after bv2
  replace hD := hD.after bv2
  replace hR := hR.after bv2
  replace hB := hB.trans (bv2.mono hS)
  replace hS := Nat.le_trans hS bv2.size
  clear bv2
  refine wpList_store_box (cells := fArr (dig A)) rfl 34 (.tmp 7) (.tmp 19) rfl h_A (by rfl) (by rfl) (by rw [fArr_size]; rfl) (by rw [fArr_size]; kernel_rfl) (fArr_one _) ?_
  intro v3 h_A_ stv3
  simp only [Act.put]
  replace hP := stv3.box hP n_P__A
  replace hQ := stv3.box hQ n_Q__A
  replace hD := stv3.box hD n_D__A
  replace hR := stv3.box hR n_R__A
  replace hB := stv3.below w.heap.size w l_A hB
  replace hS := Nat.le_trans hS (Nat.le_of_eq stv3.size.symm)
  clear h_A stv3
  have h_A := h_A_
  clear h_A_
  go_upto_region 2 with fail
  go_step
  refine wpList_load_box rfl 34 _ rfl h_A (by rfl) Try.underlying34 rfl (by rw [fArr_size]; kernel_rfl) ?_
  simp only [Act.put, List.setIfInBounds_toArray, List.set_cons_zero, List.set_cons_succ]
  refine wpList_load_box rfl 34 _ rfl h_A (by rfl) Try.underlying34 rfl (by rw [fArr_size]; kernel_rfl) ?_
  simp only [Act.put, List.setIfInBounds_toArray, List.set_cons_zero, List.set_cons_succ]
  refine wpList_made_call rfl 48 #[.agg (fArr (dig A)), .agg (fArr (dig A))] (by simp [go_sem]) _ (C_B.out _) ?_
  intro v4 bv4
  simp only [Act.put, List.setIfInBounds_toArray, List.set_cons_zero, List.set_cons_succ]
  replace hP := hP.after bv4
  replace hQ := hQ.after bv4
  replace hD := hD.after bv4
  replace hR := hR.after bv4
  replace h_A := h_A.after bv4
  replace hB := hB.trans (bv4.mono hS)
  replace hS := Nat.le_trans hS bv4.size
  clear bv4
  refine wpList_new rfl 34 rfl (Array.replicate 16 (Value.int .u64 0)) (by intro w; simp [go_sem]; rfl) ?_
  intro g_B v5 h_B l_B bv5
  simp only [Act.put, List.setIfInBounds_toArray, List.set_cons_zero, List.set_cons_succ]
  have n_P__B := hP.before l_B
  have n__B_P := hP.behind l_B
  have n_Q__B := hQ.before l_B
  have n__B_Q := hQ.behind l_B
  have n_D__B := hD.before l_B
  have n__B_D := hD.behind l_B
  have n_R__B := hR.before l_B
  have n__B_R := hR.behind l_B
  have n__A__B := h_A.before l_B
  have n__B__A := h_A.behind l_B
  replace l_B := Nat.le_trans hS l_B
  replace hP := hP.after bv5
  replace hQ := hQ.after bv5
  replace hD := hD.after bv5
  replace hR := hR.after bv5
  replace h_A := h_A.after bv5
  replace hB := hB.trans (bv5.mono hS)
  replace hS := Nat.le_trans hS bv5.size
  clear bv5
  refine wpList_store_box (cells := fArr (dig B)) rfl 34 (.tmp 8) (.tmp 22) rfl h_B (by rfl) (by rfl) (by rw [fArr_size]; rfl) (by rw [fArr_size]; kernel_rfl) (fArr_one _) ?_
  intro v6 h_B_ stv6
  simp only [Act.put]
  replace hP := stv6.box hP n_P__B
  replace hQ := stv6.box hQ n_Q__B
  replace hD := stv6.box hD n_D__B
  replace hR := stv6.box hR n_R__B
  replace h_A := stv6.box h_A n__A__B
  replace hB := stv6.below w.heap.size w l_B hB
  replace hS := Nat.le_trans hS (Nat.le_of_eq stv6.size.symm)
  clear h_B stv6
  have h_B := h_B_
  clear h_B_
  go_upto_region 3 with fail
  go_step
  refine wpList_value rfl (.pointer (some ⟨w.heap.size, 0, none⟩)) (by simp [go_sem]) ?_
  simp only [Act.put, List.setIfInBounds_toArray, List.set_cons_zero, List.set_cons_succ]
  refine wpList_value rfl (.agg (fArr (dig u))) (run_load_mid rfl (q_x hP) (by rfl) Try.underlying34 rfl (by rw [fArr_size]; kernel_rfl)) ?_
  simp only [Act.put, List.setIfInBounds_toArray, List.set_cons_zero, List.set_cons_succ]
  refine wpList_value rfl (.pointer (some ⟨(w.heap.size + 1), 0, none⟩)) (by simp [go_sem]) ?_
  simp only [Act.put, List.setIfInBounds_toArray, List.set_cons_zero, List.set_cons_succ]
  refine wpList_value rfl (.agg (fArr (dig ub))) (run_load_mid rfl (q_x hQ) (by rfl) Try.underlying34 rfl (by rw [fArr_size]; kernel_rfl)) ?_
  simp only [Act.put, List.setIfInBounds_toArray, List.set_cons_zero, List.set_cons_succ]
  refine wpList_made_call rfl 48 #[.agg (fArr (dig u)), .agg (fArr (dig ub))] (by simp [go_sem]) _ (C_C.out _) ?_
  intro v7 bv7
  simp only [Act.put, List.setIfInBounds_toArray, List.set_cons_zero, List.set_cons_succ]
  replace hP := hP.after bv7
  replace hQ := hQ.after bv7
  replace hD := hD.after bv7
  replace hR := hR.after bv7
  replace h_A := h_A.after bv7
  replace h_B := h_B.after bv7
  replace hB := hB.trans (bv7.mono hS)
  replace hS := Nat.le_trans hS bv7.size
  clear bv7
  refine wpList_new rfl 34 rfl (Array.replicate 16 (Value.int .u64 0)) (by intro w; simp [go_sem]; rfl) ?_
  intro g_C v8 h_C l_C bv8
  simp only [Act.put, List.setIfInBounds_toArray, List.set_cons_zero, List.set_cons_succ]
  have n_P__C := hP.before l_C
  have n__C_P := hP.behind l_C
  have n_Q__C := hQ.before l_C
  have n__C_Q := hQ.behind l_C
  have n_D__C := hD.before l_C
  have n__C_D := hD.behind l_C
  have n_R__C := hR.before l_C
  have n__C_R := hR.behind l_C
  have n__A__C := h_A.before l_C
  have n__C__A := h_A.behind l_C
  have n__B__C := h_B.before l_C
  have n__C__B := h_B.behind l_C
  replace l_C := Nat.le_trans hS l_C
  replace hP := hP.after bv8
  replace hQ := hQ.after bv8
  replace hD := hD.after bv8
  replace hR := hR.after bv8
  replace h_A := h_A.after bv8
  replace h_B := h_B.after bv8
  replace hB := hB.trans (bv8.mono hS)
  replace hS := Nat.le_trans hS bv8.size
  clear bv8
  refine wpList_store_box (cells := fArr (dig C)) rfl 34 (.tmp 9) (.tmp 27) rfl h_C (by rfl) (by rfl) (by rw [fArr_size]; rfl) (by rw [fArr_size]; kernel_rfl) (fArr_one _) ?_
  intro v9 h_C_ stv9
  simp only [Act.put]
  replace hP := stv9.box hP n_P__C
  replace hQ := stv9.box hQ n_Q__C
  replace hD := stv9.box hD n_D__C
  replace hR := stv9.box hR n_R__C
  replace h_A := stv9.box h_A n__A__C
  replace h_B := stv9.box h_B n__B__C
  replace hB := stv9.below w.heap.size w l_C hB
  replace hS := Nat.le_trans hS (Nat.le_of_eq stv9.size.symm)
  clear h_C stv9
  have h_C := h_C_
  clear h_C_
  go_upto_region 4 with fail
  go_step
  refine wpList_value rfl (.pointer (some ⟨w.heap.size, 16, none⟩)) (by simp [go_sem]) ?_
  simp only [Act.put, List.setIfInBounds_toArray, List.set_cons_zero, List.set_cons_succ]
  refine wpList_value rfl (.agg (fArr (dig v))) (run_load_mid rfl (q_y hP) (by rfl) Try.underlying34 rfl (by rw [fArr_size]; kernel_rfl)) ?_
  simp only [Act.put, List.setIfInBounds_toArray, List.set_cons_zero, List.set_cons_succ]
  refine wpList_value rfl (.pointer (some ⟨(w.heap.size + 1), 16, none⟩)) (by simp [go_sem]) ?_
  simp only [Act.put, List.setIfInBounds_toArray, List.set_cons_zero, List.set_cons_succ]
  refine wpList_value rfl (.agg (fArr (dig vb))) (run_load_mid rfl (q_y hQ) (by rfl) Try.underlying34 rfl (by rw [fArr_size]; kernel_rfl)) ?_
  simp only [Act.put, List.setIfInBounds_toArray, List.set_cons_zero, List.set_cons_succ]
  refine wpList_made_call rfl 48 #[.agg (fArr (dig v)), .agg (fArr (dig vb))] (by simp [go_sem]) _ (C_E0.out _) ?_
  intro v10 bv10
  simp only [Act.put, List.setIfInBounds_toArray, List.set_cons_zero, List.set_cons_succ]
  replace hP := hP.after bv10
  replace hQ := hQ.after bv10
  replace hD := hD.after bv10
  replace hR := hR.after bv10
  replace h_A := h_A.after bv10
  replace h_B := h_B.after bv10
  replace h_C := h_C.after bv10
  replace hB := hB.trans (bv10.mono hS)
  replace hS := Nat.le_trans hS bv10.size
  clear bv10
  refine wpList_new rfl 34 rfl (Array.replicate 16 (Value.int .u64 0)) (by intro w; simp [go_sem]; rfl) ?_
  intro g_E0 v11 h_E0 l_E0 bv11
  simp only [Act.put, List.setIfInBounds_toArray, List.set_cons_zero, List.set_cons_succ]
  have n_P__E0 := hP.before l_E0
  have n__E0_P := hP.behind l_E0
  have n_Q__E0 := hQ.before l_E0
  have n__E0_Q := hQ.behind l_E0
  have n_D__E0 := hD.before l_E0
  have n__E0_D := hD.behind l_E0
  have n_R__E0 := hR.before l_E0
  have n__E0_R := hR.behind l_E0
  have n__A__E0 := h_A.before l_E0
  have n__E0__A := h_A.behind l_E0
  have n__B__E0 := h_B.before l_E0
  have n__E0__B := h_B.behind l_E0
  have n__C__E0 := h_C.before l_E0
  have n__E0__C := h_C.behind l_E0
  replace l_E0 := Nat.le_trans hS l_E0
  replace hP := hP.after bv11
  replace hQ := hQ.after bv11
  replace hD := hD.after bv11
  replace hR := hR.after bv11
  replace h_A := h_A.after bv11
  replace h_B := h_B.after bv11
  replace h_C := h_C.after bv11
  replace hB := hB.trans (bv11.mono hS)
  replace hS := Nat.le_trans hS bv11.size
  clear bv11
  refine wpList_store_box (cells := fArr (dig E0)) rfl 34 (.tmp 10) (.tmp 32) rfl h_E0 (by rfl) (by rfl) (by rw [fArr_size]; rfl) (by rw [fArr_size]; kernel_rfl) (fArr_one _) ?_
  intro v12 h_E0_ stv12
  simp only [Act.put]
  replace hP := stv12.box hP n_P__E0
  replace hQ := stv12.box hQ n_Q__E0
  replace hD := stv12.box hD n_D__E0
  replace hR := stv12.box hR n_R__E0
  replace h_A := stv12.box h_A n__A__E0
  replace h_B := stv12.box h_B n__B__E0
  replace h_C := stv12.box h_C n__C__E0
  replace hB := stv12.below w.heap.size w l_E0 hB
  replace hS := Nat.le_trans hS (Nat.le_of_eq stv12.size.symm)
  clear h_E0 stv12
  have h_E0 := h_E0_
  clear h_E0_
  go_upto_region 5 with fail
  have hKS : Keeps (fun w' => Box w' (w.heap.size + 2) 34 ((fArr (dig d))) ∧ Box w' g_C 34 (fArr (dig C)) ∧ Box w' g_E0 34 (fArr (dig E0))) := fun w w' h b => ⟨h.1.after b, h.2.1.after b, h.2.2.after b⟩
  refine wp_region_U (w := v12) (fun w' => Box w' (w.heap.size + 2) 34 ((fArr (dig d))) ∧ Box w' g_C 34 (fArr (dig C)) ∧ Box w' g_E0 34 (fArr (dig E0))) rfl (⟨hD.drew, h_C.drew, h_E0.drew⟩) ?_
  replace hP := hP.drew
  replace hQ := hQ.drew
  replace hD := hD.drew
  replace hR := hR.drew
  replace h_A := h_A.drew
  replace h_B := h_B.drew
  replace h_C := h_C.drew
  replace h_E0 := h_E0.drew
  replace hB := hB.drew
  replace hS := Nat.le_trans hS (show v12.heap.size ≤ v12.drew.heap.size from Nat.le_refl _)
  refine wpU_val 0 hKS rfl (by kernel_rfl) (by kernel_rfl) (by kernel_rfl) rfl (fun _ _ _ _ h => h) (.agg ((fArr (dig d)))) (fun w' h => run_load_box rfl h.1 (by simp [go_sem]) Try.underlying34 rfl (by rw [fArr_size]; kernel_rfl)) ?_
  simp only [Act.put, List.setIfInBounds_toArray, List.set_cons_zero, List.set_cons_succ]
  refine wpU_val 1 hKS rfl (by kernel_rfl) (by kernel_rfl) (by kernel_rfl) rfl (fun _ _ _ _ h => h) (.agg (fArr (dig C))) (fun w' h => run_load_box rfl h.2.1 (by simp [go_sem]) Try.underlying34 rfl (by rw [fArr_size]; kernel_rfl)) ?_
  simp only [Act.put, List.setIfInBounds_toArray, List.set_cons_zero, List.set_cons_succ]
  refine wpU_call 2 hKS rfl (by kernel_rfl) (by kernel_rfl) (by kernel_rfl) rfl (fun _ _ _ _ h => h) 48 #[.agg (fArr (dig d)), .agg (fArr (dig C))] (fun w => by simp [go_sem]) _ (C_F1.out) ?_
  simp only [Act.put, List.setIfInBounds_toArray, List.set_cons_zero, List.set_cons_succ]
  refine wpU_val 3 hKS rfl (by kernel_rfl) (by kernel_rfl) (by kernel_rfl) rfl (fun _ _ _ _ h => h) (.agg (fArr (dig E0))) (fun w' h => run_load_box rfl h.2.2 (by simp [go_sem]) Try.underlying34 rfl (by rw [fArr_size]; kernel_rfl)) ?_
  simp only [Act.put, List.setIfInBounds_toArray, List.set_cons_zero, List.set_cons_succ]
  refine wpU_call 4 hKS rfl (by kernel_rfl) (by kernel_rfl) (by kernel_rfl) rfl (fun _ _ _ _ h => h) 48 #[.agg (fArr (dig F1)), .agg (fArr (dig E0))] (fun w => by simp [go_sem]) _ (C_F2.out) ?_
  simp only [Act.put, List.setIfInBounds_toArray, List.set_cons_zero, List.set_cons_succ]
  refine wpU_one 5 rfl (by kernel_rfl) rfl ?_
  intro v13 bv13 sS
  replace hP := hP.after bv13
  replace hQ := hQ.after bv13
  replace hD := hD.after bv13
  replace hR := hR.after bv13
  replace h_A := h_A.after bv13
  replace h_B := h_B.after bv13
  replace h_C := h_C.after bv13
  replace h_E0 := h_E0.after bv13
  replace hB := hB.trans (bv13.mono hS)
  replace hS := Nat.le_trans hS bv13.size
  clear bv13
  refine wp_alloc_new 34 rfl (Array.replicate 16 (Value.int .u64 0)) (by intro w; simp [go_sem]; rfl) ?_
  intro g_F2 v14 h_F2 l_F2 bv14
  refine ⟨hKS _ _ sS bv14, ?_⟩
  have n_P__F2 := hP.before l_F2
  have n__F2_P := hP.behind l_F2
  have n_Q__F2 := hQ.before l_F2
  have n__F2_Q := hQ.behind l_F2
  have n_D__F2 := hD.before l_F2
  have n__F2_D := hD.behind l_F2
  have n_R__F2 := hR.before l_F2
  have n__F2_R := hR.behind l_F2
  have n__A__F2 := h_A.before l_F2
  have n__F2__A := h_A.behind l_F2
  have n__B__F2 := h_B.before l_F2
  have n__F2__B := h_B.behind l_F2
  have n__C__F2 := h_C.before l_F2
  have n__F2__C := h_C.behind l_F2
  have n__E0__F2 := h_E0.before l_F2
  have n__F2__E0 := h_E0.behind l_F2
  replace l_F2 := Nat.le_trans hS l_F2
  replace sS := hKS _ _ sS bv14
  simp only [Act.put, List.setIfInBounds_toArray, List.set_cons_zero, List.set_cons_succ]
  replace hP := hP.after bv14
  replace hQ := hQ.after bv14
  replace hD := hD.after bv14
  replace hR := hR.after bv14
  replace h_A := h_A.after bv14
  replace h_B := h_B.after bv14
  replace h_C := h_C.after bv14
  replace h_E0 := h_E0.after bv14
  replace hB := hB.trans (bv14.mono hS)
  replace hS := Nat.le_trans hS bv14.size
  clear bv14
  refine wpU_store_box (cells := fArr (dig F2)) 6 rfl (by kernel_rfl) rfl 34 (.tmp 11) (.tmp 37) rfl h_F2 (by simp [go_sem]) (by simp [go_sem]) (by rw [fArr_size]; rfl) (by rw [fArr_size]; kernel_rfl) (fArr_one _) ?_
  intro v15 v16 bv15 sS h_F2_ stv16
  refine ⟨⟨stv16.box sS.1 n_D__F2, stv16.box sS.2.1 n__C__F2, stv16.box sS.2.2 n__E0__F2⟩, ?_⟩
  simp only [Act.put]
  replace hP := hP.after bv15
  replace hQ := hQ.after bv15
  replace hD := hD.after bv15
  replace hR := hR.after bv15
  replace h_A := h_A.after bv15
  replace h_B := h_B.after bv15
  replace h_C := h_C.after bv15
  replace h_E0 := h_E0.after bv15
  replace h_F2 := h_F2.after bv15
  replace hB := hB.trans (bv15.mono hS)
  replace hS := Nat.le_trans hS bv15.size
  clear bv15
  replace hP := stv16.box hP n_P__F2
  replace hQ := stv16.box hQ n_Q__F2
  replace hD := stv16.box hD n_D__F2
  replace hR := stv16.box hR n_R__F2
  replace h_A := stv16.box h_A n__A__F2
  replace h_B := stv16.box h_B n__B__F2
  replace h_C := stv16.box h_C n__C__F2
  replace h_E0 := stv16.box h_E0 n__E0__F2
  replace hB := stv16.below w.heap.size w l_F2 hB
  replace hS := Nat.le_trans hS (Nat.le_of_eq stv16.size.symm)
  clear h_F2 stv16 sS
  have h_F2 := h_F2_
  clear h_F2_
  refine wpU_done (by kernel_rfl) ?_
  intro v17 bv17 sS
  clear hKS sS
  replace hP := hP.after bv17
  replace hQ := hQ.after bv17
  replace hD := hD.after bv17
  replace hR := hR.after bv17
  replace h_A := h_A.after bv17
  replace h_B := h_B.after bv17
  replace h_C := h_C.after bv17
  replace h_E0 := h_E0.after bv17
  replace h_F2 := h_F2.after bv17
  replace hB := hB.trans (bv17.mono hS)
  replace hS := Nat.le_trans hS bv17.size
  clear bv17
  go_upto_region 6 with fail
  go_step
  refine wpList_load_box rfl 34 _ rfl h_B (by rfl) Try.underlying34 rfl (by rw [fArr_size]; kernel_rfl) ?_
  simp only [Act.put, List.setIfInBounds_toArray, List.set_cons_zero, List.set_cons_succ]
  refine wpList_load_box rfl 34 _ rfl h_F2 (by rfl) Try.underlying34 rfl (by rw [fArr_size]; kernel_rfl) ?_
  simp only [Act.put, List.setIfInBounds_toArray, List.set_cons_zero, List.set_cons_succ]
  refine wpList_made_call rfl 62 #[.agg (fArr (dig B)), .agg (fArr (dig F2))] (by simp [go_sem]) _ (C_G.out _) ?_
  intro v18 bv18
  simp only [Act.put, List.setIfInBounds_toArray, List.set_cons_zero, List.set_cons_succ]
  replace hP := hP.after bv18
  replace hQ := hQ.after bv18
  replace hD := hD.after bv18
  replace hR := hR.after bv18
  replace h_A := h_A.after bv18
  replace h_B := h_B.after bv18
  replace h_C := h_C.after bv18
  replace h_E0 := h_E0.after bv18
  replace h_F2 := h_F2.after bv18
  replace hB := hB.trans (bv18.mono hS)
  replace hS := Nat.le_trans hS bv18.size
  clear bv18
  refine wpList_new rfl 34 rfl (Array.replicate 16 (Value.int .u64 0)) (by intro w; simp [go_sem]; rfl) ?_
  intro g_G v19 h_G l_G bv19
  simp only [Act.put, List.setIfInBounds_toArray, List.set_cons_zero, List.set_cons_succ]
  have n_P__G := hP.before l_G
  have n__G_P := hP.behind l_G
  have n_Q__G := hQ.before l_G
  have n__G_Q := hQ.behind l_G
  have n_D__G := hD.before l_G
  have n__G_D := hD.behind l_G
  have n_R__G := hR.before l_G
  have n__G_R := hR.behind l_G
  have n__A__G := h_A.before l_G
  have n__G__A := h_A.behind l_G
  have n__B__G := h_B.before l_G
  have n__G__B := h_B.behind l_G
  have n__C__G := h_C.before l_G
  have n__G__C := h_C.behind l_G
  have n__E0__G := h_E0.before l_G
  have n__G__E0 := h_E0.behind l_G
  have n__F2__G := h_F2.before l_G
  have n__G__F2 := h_F2.behind l_G
  replace l_G := Nat.le_trans hS l_G
  replace hP := hP.after bv19
  replace hQ := hQ.after bv19
  replace hD := hD.after bv19
  replace hR := hR.after bv19
  replace h_A := h_A.after bv19
  replace h_B := h_B.after bv19
  replace h_C := h_C.after bv19
  replace h_E0 := h_E0.after bv19
  replace h_F2 := h_F2.after bv19
  replace hB := hB.trans (bv19.mono hS)
  replace hS := Nat.le_trans hS bv19.size
  clear bv19
  refine wpList_store_box (cells := fArr (dig G)) rfl 34 (.tmp 12) (.tmp 40) rfl h_G (by rfl) (by rfl) (by rw [fArr_size]; rfl) (by rw [fArr_size]; kernel_rfl) (fArr_one _) ?_
  intro v20 h_G_ stv20
  simp only [Act.put]
  replace hP := stv20.box hP n_P__G
  replace hQ := stv20.box hQ n_Q__G
  replace hD := stv20.box hD n_D__G
  replace hR := stv20.box hR n_R__G
  replace h_A := stv20.box h_A n__A__G
  replace h_B := stv20.box h_B n__B__G
  replace h_C := stv20.box h_C n__C__G
  replace h_E0 := stv20.box h_E0 n__E0__G
  replace h_F2 := stv20.box h_F2 n__F2__G
  replace hB := stv20.below w.heap.size w l_G hB
  replace hS := Nat.le_trans hS (Nat.le_of_eq stv20.size.symm)
  clear h_G stv20
  have h_G := h_G_
  clear h_G_
  go_upto_region 7 with fail
  go_step
  refine wpList_load_box rfl 34 _ rfl h_B (by rfl) Try.underlying34 rfl (by rw [fArr_size]; kernel_rfl) ?_
  simp only [Act.put, List.setIfInBounds_toArray, List.set_cons_zero, List.set_cons_succ]
  refine wpList_load_box rfl 34 _ rfl h_F2 (by rfl) Try.underlying34 rfl (by rw [fArr_size]; kernel_rfl) ?_
  simp only [Act.put, List.setIfInBounds_toArray, List.set_cons_zero, List.set_cons_succ]
  refine wpList_made_call rfl 61 #[.agg (fArr (dig B)), .agg (fArr (dig F2))] (by simp [go_sem]) _ (C_H.out _) ?_
  intro v21 bv21
  simp only [Act.put, List.setIfInBounds_toArray, List.set_cons_zero, List.set_cons_succ]
  replace hP := hP.after bv21
  replace hQ := hQ.after bv21
  replace hD := hD.after bv21
  replace hR := hR.after bv21
  replace h_A := h_A.after bv21
  replace h_B := h_B.after bv21
  replace h_C := h_C.after bv21
  replace h_E0 := h_E0.after bv21
  replace h_F2 := h_F2.after bv21
  replace h_G := h_G.after bv21
  replace hB := hB.trans (bv21.mono hS)
  replace hS := Nat.le_trans hS bv21.size
  clear bv21
  refine wpList_new rfl 34 rfl (Array.replicate 16 (Value.int .u64 0)) (by intro w; simp [go_sem]; rfl) ?_
  intro g_H v22 h_H l_H bv22
  simp only [Act.put, List.setIfInBounds_toArray, List.set_cons_zero, List.set_cons_succ]
  have n_P__H := hP.before l_H
  have n__H_P := hP.behind l_H
  have n_Q__H := hQ.before l_H
  have n__H_Q := hQ.behind l_H
  have n_D__H := hD.before l_H
  have n__H_D := hD.behind l_H
  have n_R__H := hR.before l_H
  have n__H_R := hR.behind l_H
  have n__A__H := h_A.before l_H
  have n__H__A := h_A.behind l_H
  have n__B__H := h_B.before l_H
  have n__H__B := h_B.behind l_H
  have n__C__H := h_C.before l_H
  have n__H__C := h_C.behind l_H
  have n__E0__H := h_E0.before l_H
  have n__H__E0 := h_E0.behind l_H
  have n__F2__H := h_F2.before l_H
  have n__H__F2 := h_F2.behind l_H
  have n__G__H := h_G.before l_H
  have n__H__G := h_G.behind l_H
  replace l_H := Nat.le_trans hS l_H
  replace hP := hP.after bv22
  replace hQ := hQ.after bv22
  replace hD := hD.after bv22
  replace hR := hR.after bv22
  replace h_A := h_A.after bv22
  replace h_B := h_B.after bv22
  replace h_C := h_C.after bv22
  replace h_E0 := h_E0.after bv22
  replace h_F2 := h_F2.after bv22
  replace h_G := h_G.after bv22
  replace hB := hB.trans (bv22.mono hS)
  replace hS := Nat.le_trans hS bv22.size
  clear bv22
  refine wpList_store_box (cells := fArr (dig H)) rfl 34 (.tmp 13) (.tmp 43) rfl h_H (by rfl) (by rfl) (by rw [fArr_size]; rfl) (by rw [fArr_size]; kernel_rfl) (fArr_one _) ?_
  intro v23 h_H_ stv23
  simp only [Act.put]
  replace hP := stv23.box hP n_P__H
  replace hQ := stv23.box hQ n_Q__H
  replace hD := stv23.box hD n_D__H
  replace hR := stv23.box hR n_R__H
  replace h_A := stv23.box h_A n__A__H
  replace h_B := stv23.box h_B n__B__H
  replace h_C := stv23.box h_C n__C__H
  replace h_E0 := stv23.box h_E0 n__E0__H
  replace h_F2 := stv23.box h_F2 n__F2__H
  replace h_G := stv23.box h_G n__G__H
  replace hB := stv23.below w.heap.size w l_H hB
  replace hS := Nat.le_trans hS (Nat.le_of_eq stv23.size.symm)
  clear h_H stv23
  have h_H := h_H_
  clear h_H_
  go_upto_region 8 with fail
  have hKS : Keeps (fun w' => Box w' w.heap.size 36 ((qArr u v n)) ∧ Box w' (w.heap.size + 1) 36 ((qArr ub vb nb)) ∧ Box w' g_C 34 (fArr (dig C)) ∧ Box w' g_E0 34 (fArr (dig E0))) := fun w w' h b => ⟨h.1.after b, h.2.1.after b, h.2.2.1.after b, h.2.2.2.after b⟩
  refine wp_region_U (w := v23) (fun w' => Box w' w.heap.size 36 ((qArr u v n)) ∧ Box w' (w.heap.size + 1) 36 ((qArr ub vb nb)) ∧ Box w' g_C 34 (fArr (dig C)) ∧ Box w' g_E0 34 (fArr (dig E0))) rfl (⟨hP.drew, hQ.drew, h_C.drew, h_E0.drew⟩) ?_
  replace hP := hP.drew
  replace hQ := hQ.drew
  replace hD := hD.drew
  replace hR := hR.drew
  replace h_A := h_A.drew
  replace h_B := h_B.drew
  replace h_C := h_C.drew
  replace h_E0 := h_E0.drew
  replace h_F2 := h_F2.drew
  replace h_G := h_G.drew
  replace h_H := h_H.drew
  replace hB := hB.drew
  replace hS := Nat.le_trans hS (show v23.heap.size ≤ v23.drew.heap.size from Nat.le_refl _)
  refine wpU_val 0 hKS rfl (by kernel_rfl) (by kernel_rfl) (by kernel_rfl) rfl (fun _ _ _ _ h => h) (.pointer (some ⟨w.heap.size, 0, none⟩)) (fun w' h => by simp [go_sem]) ?_
  simp only [Act.put, List.setIfInBounds_toArray, List.set_cons_zero, List.set_cons_succ]
  refine wpU_val 1 hKS rfl (by kernel_rfl) (by kernel_rfl) (by kernel_rfl) rfl (fun _ _ _ _ h => h) (.agg (fArr (dig u))) (fun w' h => run_load_mid rfl (q_x h.1) (by simp [go_sem]) Try.underlying34 rfl (by rw [fArr_size]; kernel_rfl)) ?_
  simp only [Act.put, List.setIfInBounds_toArray, List.set_cons_zero, List.set_cons_succ]
  refine wpU_val 2 hKS rfl (by kernel_rfl) (by kernel_rfl) (by kernel_rfl) rfl (fun _ _ _ _ h => h) (.pointer (some ⟨w.heap.size, 16, none⟩)) (fun w' h => by simp [go_sem]) ?_
  simp only [Act.put, List.setIfInBounds_toArray, List.set_cons_zero, List.set_cons_succ]
  refine wpU_val 3 hKS rfl (by kernel_rfl) (by kernel_rfl) (by kernel_rfl) rfl (fun _ _ _ _ h => h) (.agg (fArr (dig v))) (fun w' h => run_load_mid rfl (q_y h.1) (by simp [go_sem]) Try.underlying34 rfl (by rw [fArr_size]; kernel_rfl)) ?_
  simp only [Act.put, List.setIfInBounds_toArray, List.set_cons_zero, List.set_cons_succ]
  refine wpU_call 4 hKS rfl (by kernel_rfl) (by kernel_rfl) (by kernel_rfl) rfl (fun _ _ _ _ h => h) 61 #[.agg (fArr (dig u)), .agg (fArr (dig v))] (fun w => by simp [go_sem]) _ (C_K1.out) ?_
  simp only [Act.put, List.setIfInBounds_toArray, List.set_cons_zero, List.set_cons_succ]
  refine wpU_val 5 hKS rfl (by kernel_rfl) (by kernel_rfl) (by kernel_rfl) rfl (fun _ _ _ _ h => h) (.pointer (some ⟨(w.heap.size + 1), 0, none⟩)) (fun w' h => by simp [go_sem]) ?_
  simp only [Act.put, List.setIfInBounds_toArray, List.set_cons_zero, List.set_cons_succ]
  refine wpU_val 6 hKS rfl (by kernel_rfl) (by kernel_rfl) (by kernel_rfl) rfl (fun _ _ _ _ h => h) (.agg (fArr (dig ub))) (fun w' h => run_load_mid rfl (q_x h.2.1) (by simp [go_sem]) Try.underlying34 rfl (by rw [fArr_size]; kernel_rfl)) ?_
  simp only [Act.put, List.setIfInBounds_toArray, List.set_cons_zero, List.set_cons_succ]
  refine wpU_val 7 hKS rfl (by kernel_rfl) (by kernel_rfl) (by kernel_rfl) rfl (fun _ _ _ _ h => h) (.pointer (some ⟨(w.heap.size + 1), 16, none⟩)) (fun w' h => by simp [go_sem]) ?_
  simp only [Act.put, List.setIfInBounds_toArray, List.set_cons_zero, List.set_cons_succ]
  refine wpU_val 8 hKS rfl (by kernel_rfl) (by kernel_rfl) (by kernel_rfl) rfl (fun _ _ _ _ h => h) (.agg (fArr (dig vb))) (fun w' h => run_load_mid rfl (q_y h.2.1) (by simp [go_sem]) Try.underlying34 rfl (by rw [fArr_size]; kernel_rfl)) ?_
  simp only [Act.put, List.setIfInBounds_toArray, List.set_cons_zero, List.set_cons_succ]
  refine wpU_call 9 hKS rfl (by kernel_rfl) (by kernel_rfl) (by kernel_rfl) rfl (fun _ _ _ _ h => h) 61 #[.agg (fArr (dig ub)), .agg (fArr (dig vb))] (fun w => by simp [go_sem]) _ (C_K2.out) ?_
  simp only [Act.put, List.setIfInBounds_toArray, List.set_cons_zero, List.set_cons_succ]
  refine wpU_call 10 hKS rfl (by kernel_rfl) (by kernel_rfl) (by kernel_rfl) rfl (fun _ _ _ _ h => h) 48 #[.agg (fArr (dig K1)), .agg (fArr (dig K2))] (fun w => by simp [go_sem]) _ (C_K3.out) ?_
  simp only [Act.put, List.setIfInBounds_toArray, List.set_cons_zero, List.set_cons_succ]
  refine wpU_val 11 hKS rfl (by kernel_rfl) (by kernel_rfl) (by kernel_rfl) rfl (fun _ _ _ _ h => h) (.agg (fArr (dig C))) (fun w' h => run_load_box rfl h.2.2.1 (by simp [go_sem]) Try.underlying34 rfl (by rw [fArr_size]; kernel_rfl)) ?_
  simp only [Act.put, List.setIfInBounds_toArray, List.set_cons_zero, List.set_cons_succ]
  refine wpU_call 12 hKS rfl (by kernel_rfl) (by kernel_rfl) (by kernel_rfl) rfl (fun _ _ _ _ h => h) 62 #[.agg (fArr (dig K3)), .agg (fArr (dig C))] (fun w => by simp [go_sem]) _ (C_K4.out) ?_
  simp only [Act.put, List.setIfInBounds_toArray, List.set_cons_zero, List.set_cons_succ]
  refine wpU_val 13 hKS rfl (by kernel_rfl) (by kernel_rfl) (by kernel_rfl) rfl (fun _ _ _ _ h => h) (.agg (fArr (dig E0))) (fun w' h => run_load_box rfl h.2.2.2 (by simp [go_sem]) Try.underlying34 rfl (by rw [fArr_size]; kernel_rfl)) ?_
  simp only [Act.put, List.setIfInBounds_toArray, List.set_cons_zero, List.set_cons_succ]
  refine wpU_call 14 hKS rfl (by kernel_rfl) (by kernel_rfl) (by kernel_rfl) rfl (fun _ _ _ _ h => h) 62 #[.agg (fArr (dig K4)), .agg (fArr (dig E0))] (fun w => by simp [go_sem]) _ (C_K.out) ?_
  simp only [Act.put, List.setIfInBounds_toArray, List.set_cons_zero, List.set_cons_succ]
  refine wpU_one 15 rfl (by kernel_rfl) rfl ?_
  intro v24 bv24 sS
  replace hP := hP.after bv24
  replace hQ := hQ.after bv24
  replace hD := hD.after bv24
  replace hR := hR.after bv24
  replace h_A := h_A.after bv24
  replace h_B := h_B.after bv24
  replace h_C := h_C.after bv24
  replace h_E0 := h_E0.after bv24
  replace h_F2 := h_F2.after bv24
  replace h_G := h_G.after bv24
  replace h_H := h_H.after bv24
  replace hB := hB.trans (bv24.mono hS)
  replace hS := Nat.le_trans hS bv24.size
  clear bv24
  refine wp_alloc_new 34 rfl (Array.replicate 16 (Value.int .u64 0)) (by intro w; simp [go_sem]; rfl) ?_
  intro g_K v25 h_K l_K bv25
  refine ⟨hKS _ _ sS bv25, ?_⟩
  have n_P__K := hP.before l_K
  have n__K_P := hP.behind l_K
  have n_Q__K := hQ.before l_K
  have n__K_Q := hQ.behind l_K
  have n_D__K := hD.before l_K
  have n__K_D := hD.behind l_K
  have n_R__K := hR.before l_K
  have n__K_R := hR.behind l_K
  have n__A__K := h_A.before l_K
  have n__K__A := h_A.behind l_K
  have n__B__K := h_B.before l_K
  have n__K__B := h_B.behind l_K
  have n__C__K := h_C.before l_K
  have n__K__C := h_C.behind l_K
  have n__E0__K := h_E0.before l_K
  have n__K__E0 := h_E0.behind l_K
  have n__F2__K := h_F2.before l_K
  have n__K__F2 := h_F2.behind l_K
  have n__G__K := h_G.before l_K
  have n__K__G := h_G.behind l_K
  have n__H__K := h_H.before l_K
  have n__K__H := h_H.behind l_K
  replace l_K := Nat.le_trans hS l_K
  replace sS := hKS _ _ sS bv25
  simp only [Act.put, List.setIfInBounds_toArray, List.set_cons_zero, List.set_cons_succ]
  replace hP := hP.after bv25
  replace hQ := hQ.after bv25
  replace hD := hD.after bv25
  replace hR := hR.after bv25
  replace h_A := h_A.after bv25
  replace h_B := h_B.after bv25
  replace h_C := h_C.after bv25
  replace h_E0 := h_E0.after bv25
  replace h_F2 := h_F2.after bv25
  replace h_G := h_G.after bv25
  replace h_H := h_H.after bv25
  replace hB := hB.trans (bv25.mono hS)
  replace hS := Nat.le_trans hS bv25.size
  clear bv25
  refine wpU_store_box (cells := fArr (dig K)) 16 rfl (by kernel_rfl) rfl 34 (.tmp 14) (.tmp 58) rfl h_K (by simp [go_sem]) (by simp [go_sem]) (by rw [fArr_size]; rfl) (by rw [fArr_size]; kernel_rfl) (fArr_one _) ?_
  intro v26 v27 bv26 sS h_K_ stv27
  refine ⟨⟨stv27.box sS.1 n_P__K, stv27.box sS.2.1 n_Q__K, stv27.box sS.2.2.1 n__C__K, stv27.box sS.2.2.2 n__E0__K⟩, ?_⟩
  simp only [Act.put]
  replace hP := hP.after bv26
  replace hQ := hQ.after bv26
  replace hD := hD.after bv26
  replace hR := hR.after bv26
  replace h_A := h_A.after bv26
  replace h_B := h_B.after bv26
  replace h_C := h_C.after bv26
  replace h_E0 := h_E0.after bv26
  replace h_F2 := h_F2.after bv26
  replace h_G := h_G.after bv26
  replace h_H := h_H.after bv26
  replace h_K := h_K.after bv26
  replace hB := hB.trans (bv26.mono hS)
  replace hS := Nat.le_trans hS bv26.size
  clear bv26
  replace hP := stv27.box hP n_P__K
  replace hQ := stv27.box hQ n_Q__K
  replace hD := stv27.box hD n_D__K
  replace hR := stv27.box hR n_R__K
  replace h_A := stv27.box h_A n__A__K
  replace h_B := stv27.box h_B n__B__K
  replace h_C := stv27.box h_C n__C__K
  replace h_E0 := stv27.box h_E0 n__E0__K
  replace h_F2 := stv27.box h_F2 n__F2__K
  replace h_G := stv27.box h_G n__G__K
  replace h_H := stv27.box h_H n__H__K
  replace hB := stv27.below w.heap.size w l_K hB
  replace hS := Nat.le_trans hS (Nat.le_of_eq stv27.size.symm)
  clear h_K stv27 sS
  have h_K := h_K_
  clear h_K_
  refine wpU_done (by kernel_rfl) ?_
  intro v28 bv28 sS
  clear hKS sS
  replace hP := hP.after bv28
  replace hQ := hQ.after bv28
  replace hD := hD.after bv28
  replace hR := hR.after bv28
  replace h_A := h_A.after bv28
  replace h_B := h_B.after bv28
  replace h_C := h_C.after bv28
  replace h_E0 := h_E0.after bv28
  replace h_F2 := h_F2.after bv28
  replace h_G := h_G.after bv28
  replace h_H := h_H.after bv28
  replace h_K := h_K.after bv28
  replace hB := hB.trans (bv28.mono hS)
  replace hS := Nat.le_trans hS bv28.size
  clear bv28
  clear hP hQ hD h_B h_F2
  go_upto_region 9 with fail
  have hKS : Keeps (fun w' => Box w' g_A 34 (fArr (dig A)) ∧ Box w' g_G 34 (fArr (dig G)) ∧ Box w' g_K 34 (fArr (dig K)) ∧ Box w' g_H 34 (fArr (dig H)) ∧ Box w' g_E0 34 (fArr (dig E0)) ∧ Box w' g_C 34 (fArr (dig C))) := fun w w' h b => ⟨h.1.after b, h.2.1.after b, h.2.2.1.after b, h.2.2.2.1.after b, h.2.2.2.2.1.after b, h.2.2.2.2.2.after b⟩
  refine wp_region_U (w := v28) (fun w' => Box w' g_A 34 (fArr (dig A)) ∧ Box w' g_G 34 (fArr (dig G)) ∧ Box w' g_K 34 (fArr (dig K)) ∧ Box w' g_H 34 (fArr (dig H)) ∧ Box w' g_E0 34 (fArr (dig E0)) ∧ Box w' g_C 34 (fArr (dig C))) rfl (⟨h_A.drew, h_G.drew, h_K.drew, h_H.drew, h_E0.drew, h_C.drew⟩) ?_
  replace hR := hR.drew
  replace h_A := h_A.drew
  replace h_C := h_C.drew
  replace h_E0 := h_E0.drew
  replace h_G := h_G.drew
  replace h_H := h_H.drew
  replace h_K := h_K.drew
  replace hB := hB.drew
  replace hS := Nat.le_trans hS (show v28.heap.size ≤ v28.drew.heap.size from Nat.le_refl _)
  refine wpU_val 0 hKS rfl (by kernel_rfl) (by kernel_rfl) (by kernel_rfl) rfl (fun _ _ _ _ h => h) (.agg (fArr (dig A))) (fun w' h => run_load_box rfl h.1 (by simp [go_sem]) Try.underlying34 rfl (by rw [fArr_size]; kernel_rfl)) ?_
  simp only [Act.put, List.setIfInBounds_toArray, List.set_cons_zero, List.set_cons_succ]
  refine wpU_val 1 hKS rfl (by kernel_rfl) (by kernel_rfl) (by kernel_rfl) rfl (fun _ _ _ _ h => h) (.agg (fArr (dig G))) (fun w' h => run_load_box rfl h.2.1 (by simp [go_sem]) Try.underlying34 rfl (by rw [fArr_size]; kernel_rfl)) ?_
  simp only [Act.put, List.setIfInBounds_toArray, List.set_cons_zero, List.set_cons_succ]
  refine wpU_call 2 hKS rfl (by kernel_rfl) (by kernel_rfl) (by kernel_rfl) rfl (fun _ _ _ _ h => h) 48 #[.agg (fArr (dig A)), .agg (fArr (dig G))] (fun w => by simp [go_sem]) _ (C_X1.out) ?_
  simp only [Act.put, List.setIfInBounds_toArray, List.set_cons_zero, List.set_cons_succ]
  refine wpU_val 3 hKS rfl (by kernel_rfl) (by kernel_rfl) (by kernel_rfl) rfl (fun _ _ _ _ h => h) (.agg (fArr (dig K))) (fun w' h => run_load_box rfl h.2.2.1 (by simp [go_sem]) Try.underlying34 rfl (by rw [fArr_size]; kernel_rfl)) ?_
  simp only [Act.put, List.setIfInBounds_toArray, List.set_cons_zero, List.set_cons_succ]
  refine wpU_call 4 hKS rfl (by kernel_rfl) (by kernel_rfl) (by kernel_rfl) rfl (fun _ _ _ _ h => h) 48 #[.agg (fArr (dig X1)), .agg (fArr (dig K))] (fun w => by simp [go_sem]) _ (C_X3.out) ?_
  simp only [Act.put, List.setIfInBounds_toArray, List.set_cons_zero, List.set_cons_succ]
  refine wpU_val 5 hKS rfl (by kernel_rfl) (by kernel_rfl) (by kernel_rfl) rfl (fun _ _ _ _ h => h) (.agg (fArr (dig A))) (fun w' h => run_load_box rfl h.1 (by simp [go_sem]) Try.underlying34 rfl (by rw [fArr_size]; kernel_rfl)) ?_
  simp only [Act.put, List.setIfInBounds_toArray, List.set_cons_zero, List.set_cons_succ]
  refine wpU_val 6 hKS rfl (by kernel_rfl) (by kernel_rfl) (by kernel_rfl) rfl (fun _ _ _ _ h => h) (.agg (fArr (dig H))) (fun w' h => run_load_box rfl h.2.2.2.1 (by simp [go_sem]) Try.underlying34 rfl (by rw [fArr_size]; kernel_rfl)) ?_
  simp only [Act.put, List.setIfInBounds_toArray, List.set_cons_zero, List.set_cons_succ]
  refine wpU_call 7 hKS rfl (by kernel_rfl) (by kernel_rfl) (by kernel_rfl) rfl (fun _ _ _ _ h => h) 48 #[.agg (fArr (dig A)), .agg (fArr (dig H))] (fun w => by simp [go_sem]) _ (C_Y1.out) ?_
  simp only [Act.put, List.setIfInBounds_toArray, List.set_cons_zero, List.set_cons_succ]
  refine wpU_val 8 hKS rfl (by kernel_rfl) (by kernel_rfl) (by kernel_rfl) rfl (fun _ _ _ _ h => h) (.agg (fArr (dig E0))) (fun w' h => run_load_box rfl h.2.2.2.2.1 (by simp [go_sem]) Try.underlying34 rfl (by rw [fArr_size]; kernel_rfl)) ?_
  simp only [Act.put, List.setIfInBounds_toArray, List.set_cons_zero, List.set_cons_succ]
  refine wpU_val 9 hKS rfl (by kernel_rfl) (by kernel_rfl) (by kernel_rfl) rfl (fun _ _ _ _ h => h) (.agg (fArr (dig C))) (fun w' h => run_load_box rfl h.2.2.2.2.2 (by simp [go_sem]) Try.underlying34 rfl (by rw [fArr_size]; kernel_rfl)) ?_
  simp only [Act.put, List.setIfInBounds_toArray, List.set_cons_zero, List.set_cons_succ]
  refine wpU_call 10 hKS rfl (by kernel_rfl) (by kernel_rfl) (by kernel_rfl) rfl (fun _ _ _ _ h => h) 61 #[.agg (fArr (dig E0)), .agg (fArr (dig C))] (fun w => by simp [go_sem]) _ (C_Y2.out) ?_
  simp only [Act.put, List.setIfInBounds_toArray, List.set_cons_zero, List.set_cons_succ]
  refine wpU_call 11 hKS rfl (by kernel_rfl) (by kernel_rfl) (by kernel_rfl) rfl (fun _ _ _ _ h => h) 48 #[.agg (fArr (dig Y1)), .agg (fArr (dig Y2))] (fun w => by simp [go_sem]) _ (C_Y3.out) ?_
  simp only [Act.put, List.setIfInBounds_toArray, List.set_cons_zero, List.set_cons_succ]
  refine wpU_val 12 hKS rfl (by kernel_rfl) (by kernel_rfl) (by kernel_rfl) rfl (fun _ _ _ _ h => h) (.agg (fArr (dig G))) (fun w' h => run_load_box rfl h.2.1 (by simp [go_sem]) Try.underlying34 rfl (by rw [fArr_size]; kernel_rfl)) ?_
  simp only [Act.put, List.setIfInBounds_toArray, List.set_cons_zero, List.set_cons_succ]
  refine wpU_val 13 hKS rfl (by kernel_rfl) (by kernel_rfl) (by kernel_rfl) rfl (fun _ _ _ _ h => h) (.agg (fArr (dig H))) (fun w' h => run_load_box rfl h.2.2.2.1 (by simp [go_sem]) Try.underlying34 rfl (by rw [fArr_size]; kernel_rfl)) ?_
  simp only [Act.put, List.setIfInBounds_toArray, List.set_cons_zero, List.set_cons_succ]
  refine wpU_call 14 hKS rfl (by kernel_rfl) (by kernel_rfl) (by kernel_rfl) rfl (fun _ _ _ _ h => h) 48 #[.agg (fArr (dig G)), .agg (fArr (dig H))] (fun w => by simp [go_sem]) _ (C_Z3.out) ?_
  simp only [Act.put, List.setIfInBounds_toArray, List.set_cons_zero, List.set_cons_succ]
  refine wpU_val 15 hKS rfl (by kernel_rfl) (by kernel_rfl) (by kernel_rfl) rfl (fun _ _ _ _ h => h) (.agg (qArr X3 Y3 Z3)) (fun w' h => run_build rfl _ (by simp [go_sem]) _ (build_p X3 Y3 Z3 _)) ?_
  simp only [Act.put, List.setIfInBounds_toArray, List.set_cons_zero, List.set_cons_succ]
  refine wpU_store_box (cells := qArr X3 Y3 Z3) 16 rfl (by kernel_rfl) rfl 36 (.tmp 6) (.tmp 74) rfl hR (by simp [go_sem]) (by simp [go_sem]) (by rw [qArr_size X3 Y3 Z3]; rfl) (by rw [qArr_size X3 Y3 Z3]; kernel_rfl) (qArr_one _ _ _) ?_
  intro v29 v30 bv29 sS hR_ stv30
  refine ⟨⟨stv30.box sS.1 n__A_R, stv30.box sS.2.1 n__G_R, stv30.box sS.2.2.1 n__K_R, stv30.box sS.2.2.2.1 n__H_R, stv30.box sS.2.2.2.2.1 n__E0_R, stv30.box sS.2.2.2.2.2 n__C_R⟩, ?_⟩
  simp only [Act.put]
  replace hR := hR.after bv29
  replace h_A := h_A.after bv29
  replace h_C := h_C.after bv29
  replace h_E0 := h_E0.after bv29
  replace h_G := h_G.after bv29
  replace h_H := h_H.after bv29
  replace h_K := h_K.after bv29
  replace hB := hB.trans (bv29.mono hS)
  replace hS := Nat.le_trans hS bv29.size
  clear bv29
  replace h_A := stv30.box h_A n__A_R
  replace h_C := stv30.box h_C n__C_R
  replace h_E0 := stv30.box h_E0 n__E0_R
  replace h_G := stv30.box h_G n__G_R
  replace h_H := stv30.box h_H n__H_R
  replace h_K := stv30.box h_K n__K_R
  replace hB := stv30.below w.heap.size w lR hB
  replace hS := Nat.le_trans hS (Nat.le_of_eq stv30.size.symm)
  clear hR stv30 sS
  have hR := hR_
  clear hR_
  refine wpU_done (by kernel_rfl) ?_
  intro v31 bv31 sS
  clear hKS sS
  replace hR := hR.after bv31
  replace h_A := h_A.after bv31
  replace h_C := h_C.after bv31
  replace h_E0 := h_E0.after bv31
  replace h_G := h_G.after bv31
  replace h_H := h_H.after bv31
  replace h_K := h_K.after bv31
  replace hB := hB.trans (bv31.mono hS)
  replace hS := Nat.le_trans hS bv31.size
  clear bv31
  obtain ⟨GG, hG⟩ : ∃ GG, GG = qArr X3 Y3 Z3 := ⟨_, rfl⟩
  rw [← hG] at hR
  have HGS := Lib.hid (show GG.size = 48 by rw [hG]; exact qArr_size X3 Y3 Z3)
  have HGE := Lib.hid hG
  clear hG h_A h_C h_E0 h_G h_H h_K
  clear n_P_Q n_Q_P n_P_D n_D_P n_Q_D n_D_Q n_P_R n_R_P n_Q_R n_R_Q n_D_R n_R_D n_P__A n__A_P n_Q__A n__A_Q n_D__A n__A_D n_R__A n__A_R n_P__B n__B_P n_Q__B n__B_Q n_D__B n__B_D n_R__B n__B_R n__A__B n__B__A n_P__C n__C_P n_Q__C n__C_Q n_D__C n__C_D n_R__C n__C_R n__A__C n__C__A n__B__C n__C__B n_P__E0 n__E0_P n_Q__E0 n__E0_Q n_D__E0 n__E0_D n_R__E0 n__E0_R n__A__E0 n__E0__A n__B__E0 n__E0__B n__C__E0 n__E0__C n_P__F2 n__F2_P n_Q__F2 n__F2_Q n_D__F2 n__F2_D n_R__F2 n__F2_R n__A__F2 n__F2__A n__B__F2 n__F2__B n__C__F2 n__F2__C n__E0__F2 n__F2__E0 n_P__G n__G_P n_Q__G n__G_Q n_D__G n__G_D n_R__G n__G_R n__A__G n__G__A n__B__G n__G__B n__C__G n__G__C n__E0__G n__G__E0 n__F2__G n__G__F2 n_P__H n__H_P n_Q__H n__H_Q n_D__H n__H_D n_R__H n__H_R n__A__H n__H__A n__B__H n__H__B n__C__H n__H__C n__E0__H n__H__E0 n__F2__H n__H__F2 n__G__H n__H__G n_P__K n__K_P n_Q__K n__K_Q n_D__K n__K_D n_R__K n__K_R n__A__K n__K__A n__B__K n__K__B n__C__K n__K__C n__E0__K n__K__E0 n__F2__K n__K__F2 n__G__K n__K__G n__H__K n__K__H
  rename_i a1
  refine a1 _ _ ?_
  refine wp_ret ?_
  exact bodyPost_ret (v := .agg GG) (box_result rfl _ _ (by rfl) hR Try.underlying36 rfl (by rw [HGS.out]; kernel_rfl)) rfl ⟨by rw [HGE.out], hB⟩
set_option linter.unusedSimpArgs false in
set_option maxRecDepth 100000 in
set_option maxHeartbeats 20000000 in
theorem refPtAdd_any (u v n ub vb nb : Nat) (hp : u < P25 ∧ v < P25 ∧ n < P25) (hq : ub < P25 ∧ vb < P25 ∧ nb < P25) (w : World) : Calls Try.prog 16 #[.agg (qArr u v n), .agg (qArr ub vb nb)] w fun e w' => e = .returned (.agg (qArr (qX dN u v n ub vb nb) (qY dN u v n ub vb nb) (qZ dN u v n ub vb nb))) ∧ Below w.heap.size w w' := by
  have HAD := Lib.hid (fun w : World => refPtAdd0_any u v n ub vb nb dN hp hq (by rw [dN_def]; exact fm_lt _ _) w)
  have HD := Lib.hid refD_any
  generalize qX dN u v n ub vb nb = X3 at *
  generalize qY dN u v n ub vb nb = Y3 at *
  generalize qZ dN u v n ub vb nb = Z3 at *
  generalize dN = dd at *
  clear hp hq
  go_enter Try.func16, Try.ntmps16
  go_upto_region 1 with fail
  have hP : Box (((w.alloc (.cells (qArr u v n) 36)).alloc (.cells (qArr ub vb nb) 36)).alloc (.cells (Array.replicate 48 (Value.int .u64 0)) 36)) w.heap.size 36 (qArr u v n) := (((Box.new w 36 (qArr u v n)).alloc (.cells (qArr ub vb nb) 36)).alloc (.cells (Array.replicate 48 (Value.int .u64 0)) 36))
  have lP : w.heap.size ≤ w.heap.size := by omega
  have hQ : Box (((w.alloc (.cells (qArr u v n) 36)).alloc (.cells (qArr ub vb nb) 36)).alloc (.cells (Array.replicate 48 (Value.int .u64 0)) 36)) (w.heap.size + 1) 36 (qArr ub vb nb) := by
    have := ((Box.new (w.alloc (.cells (qArr u v n) 36)) 36 (qArr ub vb nb)).alloc (.cells (Array.replicate 48 (Value.int .u64 0)) 36))
    simp only [World.size_alloc] at this
    exact this
  have lQ : w.heap.size ≤ (w.heap.size + 1) := by omega
  have n_P_Q : w.heap.size ≠ (w.heap.size + 1) := by omega
  have n_Q_P : (w.heap.size + 1) ≠ w.heap.size := by omega
  have hR : Box (((w.alloc (.cells (qArr u v n) 36)).alloc (.cells (qArr ub vb nb) 36)).alloc (.cells (Array.replicate 48 (Value.int .u64 0)) 36)) (w.heap.size + 2) 36 (Array.replicate 48 (Value.int .u64 0)) := by
    have := (Box.new ((w.alloc (.cells (qArr u v n) 36)).alloc (.cells (qArr ub vb nb) 36)) 36 (Array.replicate 48 (Value.int .u64 0)))
    simp only [World.size_alloc, Nat.add_assoc, Nat.reduceAdd] at this
    exact this
  have lR : w.heap.size ≤ (w.heap.size + 2) := by omega
  have n_P_R : w.heap.size ≠ (w.heap.size + 2) := by omega
  have n_R_P : (w.heap.size + 2) ≠ w.heap.size := by omega
  have n_Q_R : (w.heap.size + 1) ≠ (w.heap.size + 2) := by omega
  have n_R_Q : (w.heap.size + 2) ≠ (w.heap.size + 1) := by omega
  have hB : Below w.heap.size w (((w.alloc (.cells (qArr u v n) 36)).alloc (.cells (qArr ub vb nb) 36)).alloc (.cells (Array.replicate 48 (Value.int .u64 0)) 36)) := ((((Below.refl w.heap.size w).alloc (by simp; try omega) (.cells (qArr u v n) 36)).alloc (by simp; try omega) (.cells (qArr ub vb nb) 36)).alloc (by simp; try omega) (.cells (Array.replicate 48 (Value.int .u64 0)) 36))
  have hS := hB.size
  change Code.wp _ _ _ _ (((w.alloc (.cells (qArr u v n) 36)).alloc (.cells (qArr ub vb nb) 36)).alloc (.cells (Array.replicate 48 (Value.int .u64 0)) 36))
  generalize (((w.alloc (.cells (qArr u v n) 36)).alloc (.cells (qArr ub vb nb) 36)).alloc (.cells (Array.replicate 48 (Value.int .u64 0)) 36)) = v0 at *
  have hKS : Keeps (fun w' => Box w' w.heap.size 36 ((qArr u v n)) ∧ Box w' (w.heap.size + 1) 36 ((qArr ub vb nb))) := fun w w' h b => ⟨h.1.after b, h.2.after b⟩
  refine wp_region_U (w := v0) (fun w' => Box w' w.heap.size 36 ((qArr u v n)) ∧ Box w' (w.heap.size + 1) 36 ((qArr ub vb nb))) rfl (⟨hP.drew, hQ.drew⟩) ?_
  replace hP := hP.drew
  replace hQ := hQ.drew
  replace hR := hR.drew
  replace hB := hB.drew
  replace hS := Nat.le_trans hS (show v0.heap.size ≤ v0.drew.heap.size from Nat.le_refl _)
  refine wpU_val 0 hKS rfl (by kernel_rfl) (by kernel_rfl) (by kernel_rfl) rfl (fun _ _ _ _ h => h) (.agg ((qArr u v n))) (fun w' h => run_load_box rfl h.1 (by simp [go_sem]) Try.underlying36 rfl (by rw [qArr_size u v n]; kernel_rfl)) ?_
  simp only [Act.put, List.setIfInBounds_toArray, List.set_cons_zero, List.set_cons_succ]
  refine wpU_val 1 hKS rfl (by kernel_rfl) (by kernel_rfl) (by kernel_rfl) rfl (fun _ _ _ _ h => h) (.agg ((qArr ub vb nb))) (fun w' h => run_load_box rfl h.2 (by simp [go_sem]) Try.underlying36 rfl (by rw [qArr_size ub vb nb]; kernel_rfl)) ?_
  simp only [Act.put, List.setIfInBounds_toArray, List.set_cons_zero, List.set_cons_succ]
  refine wpU_call 2 hKS rfl (by kernel_rfl) (by kernel_rfl) (by kernel_rfl) rfl (fun _ _ _ _ h => h) 47 #[] (fun w => by simp [go_sem]) _ (HD.out) ?_
  simp only [Act.put, List.setIfInBounds_toArray, List.set_cons_zero, List.set_cons_succ]
  refine wpU_call 3 hKS rfl (by kernel_rfl) (by kernel_rfl) (by kernel_rfl) rfl (fun _ _ _ _ h => h) 46 #[.agg (qArr u v n), .agg (qArr ub vb nb), .agg (fArr (dig dd))] (fun w => by simp [go_sem]) _ (HAD.out) ?_
  simp only [Act.put, List.setIfInBounds_toArray, List.set_cons_zero, List.set_cons_succ]
  refine wpU_store_box (cells := qArr X3 Y3 Z3) 4 rfl (by kernel_rfl) rfl 36 (.tmp 4) (.tmp 8) rfl hR (by simp [go_sem]) (by simp [go_sem]) (by rw [qArr_size X3 Y3 Z3]; rfl) (by rw [qArr_size X3 Y3 Z3]; kernel_rfl) (qArr_one _ _ _) ?_
  intro v1 v2 bv1 sS hR_ stv2
  refine ⟨⟨stv2.box sS.1 n_P_R, stv2.box sS.2 n_Q_R⟩, ?_⟩
  simp only [Act.put]
  replace hP := hP.after bv1
  replace hQ := hQ.after bv1
  replace hR := hR.after bv1
  replace hB := hB.trans (bv1.mono hS)
  replace hS := Nat.le_trans hS bv1.size
  clear bv1
  replace hP := stv2.box hP n_P_R
  replace hQ := stv2.box hQ n_Q_R
  replace hB := stv2.below w.heap.size w lR hB
  replace hS := Nat.le_trans hS (Nat.le_of_eq stv2.size.symm)
  clear hR stv2 sS
  have hR := hR_
  clear hR_
  refine wpU_done (by kernel_rfl) ?_
  intro v3 bv3 sS
  clear hKS sS
  replace hP := hP.after bv3
  replace hQ := hQ.after bv3
  replace hR := hR.after bv3
  replace hB := hB.trans (bv3.mono hS)
  replace hS := Nat.le_trans hS bv3.size
  clear bv3
  obtain ⟨GG, hG⟩ : ∃ GG, GG = qArr X3 Y3 Z3 := ⟨_, rfl⟩
  rw [← hG] at hR
  have HGS := Lib.hid (show GG.size = 48 by rw [hG]; exact qArr_size X3 Y3 Z3)
  have HGE := Lib.hid hG
  clear hG hP hQ
  clear n_P_Q n_Q_P n_P_R n_R_P n_Q_R n_R_Q
  rename_i a1
  refine a1 _ _ ?_
  refine wp_ret ?_
  exact bodyPost_ret (v := .agg GG) (box_result rfl _ _ (by rfl) hR Try.underlying36 rfl (by rw [HGS.out]; kernel_rfl)) rfl ⟨by rw [HGE.out], hB⟩
set_option linter.unusedSimpArgs false in
set_option maxRecDepth 100000 in
set_option maxHeartbeats 20000000 in
theorem refPtNeg_any (u v n : Nat) (hu : u < P25) (w : World) : Calls Try.prog 18 #[.agg (qArr u v n)] w fun e w' => e = .returned (.agg (qArr (fs 0 u) v n)) ∧ Below w.heap.size w w' := by
  have HNG := Lib.hid (rNeg u hu)
  generalize fs 0 u = u9 at *
  clear hu
  go_enter Try.func18, Try.ntmps18
  go_upto_region 1 with fail
  have hP : Box ((w.alloc (.cells (qArr u v n) 36)).alloc (.cells (Array.replicate 48 (Value.int .u64 0)) 36)) w.heap.size 36 (qArr u v n) := ((Box.new w 36 (qArr u v n)).alloc (.cells (Array.replicate 48 (Value.int .u64 0)) 36))
  have lP : w.heap.size ≤ w.heap.size := by omega
  have hR : Box ((w.alloc (.cells (qArr u v n) 36)).alloc (.cells (Array.replicate 48 (Value.int .u64 0)) 36)) (w.heap.size + 1) 36 (Array.replicate 48 (Value.int .u64 0)) := by
    have := (Box.new (w.alloc (.cells (qArr u v n) 36)) 36 (Array.replicate 48 (Value.int .u64 0)))
    simp only [World.size_alloc] at this
    exact this
  have lR : w.heap.size ≤ (w.heap.size + 1) := by omega
  have n_P_R : w.heap.size ≠ (w.heap.size + 1) := by omega
  have n_R_P : (w.heap.size + 1) ≠ w.heap.size := by omega
  have hB : Below w.heap.size w ((w.alloc (.cells (qArr u v n) 36)).alloc (.cells (Array.replicate 48 (Value.int .u64 0)) 36)) := (((Below.refl w.heap.size w).alloc (by simp; try omega) (.cells (qArr u v n) 36)).alloc (by simp; try omega) (.cells (Array.replicate 48 (Value.int .u64 0)) 36))
  have hS := hB.size
  change Code.wp _ _ _ _ ((w.alloc (.cells (qArr u v n) 36)).alloc (.cells (Array.replicate 48 (Value.int .u64 0)) 36))
  generalize ((w.alloc (.cells (qArr u v n) 36)).alloc (.cells (Array.replicate 48 (Value.int .u64 0)) 36)) = v0 at *
  have hKS : Keeps (fun w' => Box w' w.heap.size 36 ((qArr u v n))) := fun w w' h b => h.after b
  refine wp_region_U (w := v0) (fun w' => Box w' w.heap.size 36 ((qArr u v n))) rfl (hP.drew) ?_
  replace hP := hP.drew
  replace hR := hR.drew
  replace hB := hB.drew
  replace hS := Nat.le_trans hS (show v0.heap.size ≤ v0.drew.heap.size from Nat.le_refl _)
  refine wpU_val 0 hKS rfl (by kernel_rfl) (by kernel_rfl) (by kernel_rfl) rfl (fun _ _ _ _ h => h) (.pointer (some ⟨w.heap.size, 0, none⟩)) (fun w' h => by simp [go_sem]) ?_
  simp only [Act.put, List.setIfInBounds_toArray, List.set_cons_zero, List.set_cons_succ]
  refine wpU_val 1 hKS rfl (by kernel_rfl) (by kernel_rfl) (by kernel_rfl) rfl (fun _ _ _ _ h => h) (.agg (fArr (dig u))) (fun w' h => run_load_mid rfl (q_x h) (by simp [go_sem]) Try.underlying34 rfl (by rw [fArr_size]; kernel_rfl)) ?_
  simp only [Act.put, List.setIfInBounds_toArray, List.set_cons_zero, List.set_cons_succ]
  refine wpU_call 2 hKS rfl (by kernel_rfl) (by kernel_rfl) (by kernel_rfl) rfl (fun _ _ _ _ h => h) 39 #[.agg (fArr (dig u))] (fun w => by simp [go_sem]) _ (HNG.out) ?_
  simp only [Act.put, List.setIfInBounds_toArray, List.set_cons_zero, List.set_cons_succ]
  refine wpU_val 3 hKS rfl (by kernel_rfl) (by kernel_rfl) (by kernel_rfl) rfl (fun _ _ _ _ h => h) (.pointer (some ⟨w.heap.size, 16, none⟩)) (fun w' h => by simp [go_sem]) ?_
  simp only [Act.put, List.setIfInBounds_toArray, List.set_cons_zero, List.set_cons_succ]
  refine wpU_val 4 hKS rfl (by kernel_rfl) (by kernel_rfl) (by kernel_rfl) rfl (fun _ _ _ _ h => h) (.agg (fArr (dig v))) (fun w' h => run_load_mid rfl (q_y h) (by simp [go_sem]) Try.underlying34 rfl (by rw [fArr_size]; kernel_rfl)) ?_
  simp only [Act.put, List.setIfInBounds_toArray, List.set_cons_zero, List.set_cons_succ]
  refine wpU_val 5 hKS rfl (by kernel_rfl) (by kernel_rfl) (by kernel_rfl) rfl (fun _ _ _ _ h => h) (.pointer (some ⟨w.heap.size, 32, none⟩)) (fun w' h => by simp [go_sem]) ?_
  simp only [Act.put, List.setIfInBounds_toArray, List.set_cons_zero, List.set_cons_succ]
  refine wpU_val 6 hKS rfl (by kernel_rfl) (by kernel_rfl) (by kernel_rfl) rfl (fun _ _ _ _ h => h) (.agg (fArr (dig n))) (fun w' h => run_load_mid rfl (q_z h) (by simp [go_sem]) Try.underlying34 rfl (by rw [fArr_size]; kernel_rfl)) ?_
  simp only [Act.put, List.setIfInBounds_toArray, List.set_cons_zero, List.set_cons_succ]
  refine wpU_val 7 hKS rfl (by kernel_rfl) (by kernel_rfl) (by kernel_rfl) rfl (fun _ _ _ _ h => h) (.agg (qArr u9 v n)) (fun w' h => run_build rfl _ (by simp [go_sem]) _ (build_p u9 v n _)) ?_
  simp only [Act.put, List.setIfInBounds_toArray, List.set_cons_zero, List.set_cons_succ]
  refine wpU_store_box (cells := qArr u9 v n) 8 rfl (by kernel_rfl) rfl 36 (.tmp 2) (.tmp 10) rfl hR (by simp [go_sem]) (by simp [go_sem]) (by rw [qArr_size u9 v n]; rfl) (by rw [qArr_size u9 v n]; kernel_rfl) (qArr_one _ _ _) ?_
  intro v1 v2 bv1 sS hR_ stv2
  refine ⟨stv2.box sS n_P_R, ?_⟩
  simp only [Act.put]
  replace hP := hP.after bv1
  replace hR := hR.after bv1
  replace hB := hB.trans (bv1.mono hS)
  replace hS := Nat.le_trans hS bv1.size
  clear bv1
  replace hP := stv2.box hP n_P_R
  replace hB := stv2.below w.heap.size w lR hB
  replace hS := Nat.le_trans hS (Nat.le_of_eq stv2.size.symm)
  clear hR stv2 sS
  have hR := hR_
  clear hR_
  refine wpU_done (by kernel_rfl) ?_
  intro v3 bv3 sS
  clear hKS sS
  replace hP := hP.after bv3
  replace hR := hR.after bv3
  replace hB := hB.trans (bv3.mono hS)
  replace hS := Nat.le_trans hS bv3.size
  clear bv3
  obtain ⟨GG, hG⟩ : ∃ GG, GG = qArr u9 v n := ⟨_, rfl⟩
  rw [← hG] at hR
  have HGS := Lib.hid (show GG.size = 48 by rw [hG]; exact qArr_size u9 v n)
  have HGE := Lib.hid hG
  clear hG hP
  clear n_P_R n_R_P
  rename_i a1
  refine a1 _ _ ?_
  refine wp_ret ?_
  exact bodyPost_ret (v := .agg GG) (box_result rfl _ _ (by rfl) hR Try.underlying36 rfl (by rw [HGS.out]; kernel_rfl)) rfl ⟨by rw [HGE.out], hB⟩
end Go.Proofs.Ytpkoniebbkkmjaa
namespace Go.Proofs.Ytpkoniebbkkmjaa
open Go.RowKit
attribute [local irreducible] fi dN xx rtN rtOk pw fa fs fm

set_option linter.unusedSimpArgs false in
set_option maxRecDepth 100000 in
set_option maxHeartbeats 20000000 in
theorem ptNeg_any (x y z t : L5) (X T : Nat) (hx : El x X) (ht : El t T) (w : World) : Calls Try.prog 17 #[.agg (pArr x y z t)] w fun e w' => e = .returned (.agg (pArr (L5.zero.sub x) y z (L5.zero.sub t))) ∧ Below w.heap.size w w' := by
  have HSX := Lib.hid (fun w : World => sub_el el_zero hx w)
  have HST := Lib.hid (fun w : World => sub_el el_zero ht w)
  generalize L5.zero.sub x = x9 at *
  generalize L5.zero.sub t = t9 at *
  clear hx ht
  go_enter Try.func17, Try.ntmps17
  go_upto_region 1 with fail
  have hP : Box ((w.alloc (.cells (pArr x y z t) 29)).alloc (.cells #[.int .u64 0, .int .u64 0, .int .u64 0, .int .u64 0, .int .u64 0, .int .u64 0, .int .u64 0, .int .u64 0, .int .u64 0, .int .u64 0, .int .u64 0, .int .u64 0, .int .u64 0, .int .u64 0, .int .u64 0, .int .u64 0, .int .u64 0, .int .u64 0, .int .u64 0, .int .u64 0] 29)) w.heap.size 29 (pArr x y z t) := ((Box.new w 29 (pArr x y z t)).alloc (.cells #[.int .u64 0, .int .u64 0, .int .u64 0, .int .u64 0, .int .u64 0, .int .u64 0, .int .u64 0, .int .u64 0, .int .u64 0, .int .u64 0, .int .u64 0, .int .u64 0, .int .u64 0, .int .u64 0, .int .u64 0, .int .u64 0, .int .u64 0, .int .u64 0, .int .u64 0, .int .u64 0] 29))
  have lP : w.heap.size ≤ w.heap.size := by omega
  have hR : Box ((w.alloc (.cells (pArr x y z t) 29)).alloc (.cells #[.int .u64 0, .int .u64 0, .int .u64 0, .int .u64 0, .int .u64 0, .int .u64 0, .int .u64 0, .int .u64 0, .int .u64 0, .int .u64 0, .int .u64 0, .int .u64 0, .int .u64 0, .int .u64 0, .int .u64 0, .int .u64 0, .int .u64 0, .int .u64 0, .int .u64 0, .int .u64 0] 29)) (w.heap.size + 1) 29 #[.int .u64 0, .int .u64 0, .int .u64 0, .int .u64 0, .int .u64 0, .int .u64 0, .int .u64 0, .int .u64 0, .int .u64 0, .int .u64 0, .int .u64 0, .int .u64 0, .int .u64 0, .int .u64 0, .int .u64 0, .int .u64 0, .int .u64 0, .int .u64 0, .int .u64 0, .int .u64 0] := by
    have := (Box.new (w.alloc (.cells (pArr x y z t) 29)) 29 #[.int .u64 0, .int .u64 0, .int .u64 0, .int .u64 0, .int .u64 0, .int .u64 0, .int .u64 0, .int .u64 0, .int .u64 0, .int .u64 0, .int .u64 0, .int .u64 0, .int .u64 0, .int .u64 0, .int .u64 0, .int .u64 0, .int .u64 0, .int .u64 0, .int .u64 0, .int .u64 0])
    simp only [World.size_alloc] at this
    exact this
  have lR : w.heap.size ≤ (w.heap.size + 1) := by omega
  have n_P_R : w.heap.size ≠ (w.heap.size + 1) := by omega
  have n_R_P : (w.heap.size + 1) ≠ w.heap.size := by omega
  have hB : Below w.heap.size w ((w.alloc (.cells (pArr x y z t) 29)).alloc (.cells #[.int .u64 0, .int .u64 0, .int .u64 0, .int .u64 0, .int .u64 0, .int .u64 0, .int .u64 0, .int .u64 0, .int .u64 0, .int .u64 0, .int .u64 0, .int .u64 0, .int .u64 0, .int .u64 0, .int .u64 0, .int .u64 0, .int .u64 0, .int .u64 0, .int .u64 0, .int .u64 0] 29)) := (((Below.refl w.heap.size w).alloc (by simp; try omega) (.cells (pArr x y z t) 29)).alloc (by simp; try omega) (.cells #[.int .u64 0, .int .u64 0, .int .u64 0, .int .u64 0, .int .u64 0, .int .u64 0, .int .u64 0, .int .u64 0, .int .u64 0, .int .u64 0, .int .u64 0, .int .u64 0, .int .u64 0, .int .u64 0, .int .u64 0, .int .u64 0, .int .u64 0, .int .u64 0, .int .u64 0, .int .u64 0] 29))
  have hS := hB.size
  change Code.wp _ _ _ _ ((w.alloc (.cells (pArr x y z t) 29)).alloc (.cells #[.int .u64 0, .int .u64 0, .int .u64 0, .int .u64 0, .int .u64 0, .int .u64 0, .int .u64 0, .int .u64 0, .int .u64 0, .int .u64 0, .int .u64 0, .int .u64 0, .int .u64 0, .int .u64 0, .int .u64 0, .int .u64 0, .int .u64 0, .int .u64 0, .int .u64 0, .int .u64 0] 29))
  generalize ((w.alloc (.cells (pArr x y z t) 29)).alloc (.cells #[.int .u64 0, .int .u64 0, .int .u64 0, .int .u64 0, .int .u64 0, .int .u64 0, .int .u64 0, .int .u64 0, .int .u64 0, .int .u64 0, .int .u64 0, .int .u64 0, .int .u64 0, .int .u64 0, .int .u64 0, .int .u64 0, .int .u64 0, .int .u64 0, .int .u64 0, .int .u64 0] 29)) = v0 at *
  go_step
  refine wpList_new rfl 27 rfl #[.int .u64 0, .int .u64 0, .int .u64 0, .int .u64 0, .int .u64 0] (by intro w; simp [go_sem]) ?_
  intro gO v1 hO lO bv1
  simp only [Act.put, List.setIfInBounds_toArray, List.set_cons_zero, List.set_cons_succ]
  have n_P_O := hP.before lO
  have n_O_P := hP.behind lO
  have n_R_O := hR.before lO
  have n_O_R := hR.behind lO
  replace lO := Nat.le_trans hS lO
  replace hP := hP.after bv1
  replace hR := hR.after bv1
  replace hB := hB.trans (bv1.mono hS)
  replace hS := Nat.le_trans hS bv1.size
  clear bv1
  go_upto_region 2 with fail
  have hKS : Keeps (fun w' => Box w' w.heap.size 29 ((pArr x y z t)) ∧ Box w' gO 27 (gArr L5.zero.at)) := fun w w' h b => ⟨h.1.after b, h.2.after b⟩
  refine wp_region_U (w := v1) (fun w' => Box w' w.heap.size 29 ((pArr x y z t)) ∧ Box w' gO 27 (gArr L5.zero.at)) rfl (⟨hP.drew, hO.drew⟩) ?_
  replace hP := hP.drew
  replace hR := hR.drew
  replace hO := hO.drew
  replace hB := hB.drew
  replace hS := Nat.le_trans hS (show v1.heap.size ≤ v1.drew.heap.size from Nat.le_refl _)
  refine wpU_val 0 hKS rfl (by kernel_rfl) (by kernel_rfl) (by kernel_rfl) rfl (fun _ _ _ _ h => h) (.agg (gArr L5.zero.at)) (fun w' h => run_load_box rfl h.2 (by simp [go_sem]) Try.underlying27 rfl (by rw [gArr_size]; kernel_rfl)) ?_
  simp only [Act.put, List.setIfInBounds_toArray, List.set_cons_zero, List.set_cons_succ]
  refine wpU_val 1 hKS rfl (by kernel_rfl) (by kernel_rfl) (by kernel_rfl) rfl (fun _ _ _ _ h => h) (.pointer (some ⟨w.heap.size, 0, none⟩)) (fun w' h => by simp [go_sem]) ?_
  simp only [Act.put, List.setIfInBounds_toArray, List.set_cons_zero, List.set_cons_succ]
  refine wpU_val 2 hKS rfl (by kernel_rfl) (by kernel_rfl) (by kernel_rfl) rfl (fun _ _ _ _ h => h) (.agg (gArr x.at)) (fun w' h => run_load_mid rfl (pt_x h.1) (by simp [go_sem]) Try.underlying27 rfl (by rw [gArr_size]; kernel_rfl)) ?_
  simp only [Act.put, List.setIfInBounds_toArray, List.set_cons_zero, List.set_cons_succ]
  refine wpU_call 3 hKS rfl (by kernel_rfl) (by kernel_rfl) (by kernel_rfl) rfl (fun _ _ _ _ h => h) 31 #[.agg (gArr L5.zero.at), .agg (gArr x.at)] (fun w => by simp [go_sem]) _ (HSX.out) ?_
  simp only [Act.put, List.setIfInBounds_toArray, List.set_cons_zero, List.set_cons_succ]
  refine wpU_val 4 hKS rfl (by kernel_rfl) (by kernel_rfl) (by kernel_rfl) rfl (fun _ _ _ _ h => h) (.pointer (some ⟨w.heap.size, 5, none⟩)) (fun w' h => by simp [go_sem]) ?_
  simp only [Act.put, List.setIfInBounds_toArray, List.set_cons_zero, List.set_cons_succ]
  refine wpU_val 5 hKS rfl (by kernel_rfl) (by kernel_rfl) (by kernel_rfl) rfl (fun _ _ _ _ h => h) (.agg (gArr y.at)) (fun w' h => run_load_mid rfl (pt_y h.1) (by simp [go_sem]) Try.underlying27 rfl (by rw [gArr_size]; kernel_rfl)) ?_
  simp only [Act.put, List.setIfInBounds_toArray, List.set_cons_zero, List.set_cons_succ]
  refine wpU_val 6 hKS rfl (by kernel_rfl) (by kernel_rfl) (by kernel_rfl) rfl (fun _ _ _ _ h => h) (.pointer (some ⟨w.heap.size, 10, none⟩)) (fun w' h => by simp [go_sem]) ?_
  simp only [Act.put, List.setIfInBounds_toArray, List.set_cons_zero, List.set_cons_succ]
  refine wpU_val 7 hKS rfl (by kernel_rfl) (by kernel_rfl) (by kernel_rfl) rfl (fun _ _ _ _ h => h) (.agg (gArr z.at)) (fun w' h => run_load_mid rfl (pt_z h.1) (by simp [go_sem]) Try.underlying27 rfl (by rw [gArr_size]; kernel_rfl)) ?_
  simp only [Act.put, List.setIfInBounds_toArray, List.set_cons_zero, List.set_cons_succ]
  refine wpU_val 8 hKS rfl (by kernel_rfl) (by kernel_rfl) (by kernel_rfl) rfl (fun _ _ _ _ h => h) (.agg (gArr L5.zero.at)) (fun w' h => run_load_box rfl h.2 (by simp [go_sem]) Try.underlying27 rfl (by rw [gArr_size]; kernel_rfl)) ?_
  simp only [Act.put, List.setIfInBounds_toArray, List.set_cons_zero, List.set_cons_succ]
  refine wpU_val 9 hKS rfl (by kernel_rfl) (by kernel_rfl) (by kernel_rfl) rfl (fun _ _ _ _ h => h) (.pointer (some ⟨w.heap.size, 15, none⟩)) (fun w' h => by simp [go_sem]) ?_
  simp only [Act.put, List.setIfInBounds_toArray, List.set_cons_zero, List.set_cons_succ]
  refine wpU_val 10 hKS rfl (by kernel_rfl) (by kernel_rfl) (by kernel_rfl) rfl (fun _ _ _ _ h => h) (.agg (gArr t.at)) (fun w' h => run_load_mid rfl (pt_t h.1) (by simp [go_sem]) Try.underlying27 rfl (by rw [gArr_size]; kernel_rfl)) ?_
  simp only [Act.put, List.setIfInBounds_toArray, List.set_cons_zero, List.set_cons_succ]
  refine wpU_call 11 hKS rfl (by kernel_rfl) (by kernel_rfl) (by kernel_rfl) rfl (fun _ _ _ _ h => h) 31 #[.agg (gArr L5.zero.at), .agg (gArr t.at)] (fun w => by simp [go_sem]) _ (HST.out) ?_
  simp only [Act.put, List.setIfInBounds_toArray, List.set_cons_zero, List.set_cons_succ]
  refine wpU_val 12 hKS rfl (by kernel_rfl) (by kernel_rfl) (by kernel_rfl) rfl (fun _ _ _ _ h => h) (.agg (pArr x9 y z t9)) (fun w' h => run_build rfl _ (by simp [go_sem]) _ (build_pt x9 y z t9 _)) ?_
  simp only [Act.put, List.setIfInBounds_toArray, List.set_cons_zero, List.set_cons_succ]
  refine wpU_store_box (cells := pArr x9 y z t9) 13 rfl (by kernel_rfl) rfl 29 (.tmp 2) (.tmp 16) rfl hR (by simp [go_sem]) (by simp [go_sem]) (by rw [pArr_size x9 y z t9]; rfl) (by rw [pArr_size x9 y z t9]; kernel_rfl) (pArr_one _ _ _ _) ?_
  intro v2 v3 bv2 sS hR_ stv3
  refine ⟨⟨stv3.box sS.1 n_P_R, stv3.box sS.2 n_O_R⟩, ?_⟩
  simp only [Act.put]
  replace hP := hP.after bv2
  replace hR := hR.after bv2
  replace hO := hO.after bv2
  replace hB := hB.trans (bv2.mono hS)
  replace hS := Nat.le_trans hS bv2.size
  clear bv2
  replace hP := stv3.box hP n_P_R
  replace hO := stv3.box hO n_O_R
  replace hB := stv3.below w.heap.size w lR hB
  replace hS := Nat.le_trans hS (Nat.le_of_eq stv3.size.symm)
  clear hR stv3 sS
  have hR := hR_
  clear hR_
  refine wpU_done (by kernel_rfl) ?_
  intro v4 bv4 sS
  clear hKS sS
  replace hP := hP.after bv4
  replace hR := hR.after bv4
  replace hO := hO.after bv4
  replace hB := hB.trans (bv4.mono hS)
  replace hS := Nat.le_trans hS bv4.size
  clear bv4
  obtain ⟨GG, hG⟩ : ∃ GG, GG = pArr x9 y z t9 := ⟨_, rfl⟩
  rw [← hG] at hR
  have HGS := Lib.hid (show GG.size = 20 by rw [hG]; exact pArr_size x9 y z t9)
  have HGE := Lib.hid hG
  clear hG hP hO
  clear n_P_R n_R_P n_P_O n_O_P n_R_O n_O_R
  rename_i a1
  refine a1 _ _ ?_
  refine wp_ret ?_
  exact bodyPost_ret (v := .agg GG) (box_result rfl _ _ (by rfl) hR Try.underlying29 rfl (by rw [HGS.out]; kernel_rfl)) rfl ⟨by rw [HGE.out], hB⟩
end Go.Proofs.Ytpkoniebbkkmjaa

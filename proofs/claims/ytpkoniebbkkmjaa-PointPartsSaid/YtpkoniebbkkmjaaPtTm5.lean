/- PointTimes. -/
import Derived.Test.YtpkoniebbkkmjaaPtTm4
namespace Go.Proofs.Ytpkoniebbkkmjaa
open Go.RowKit
set_option linter.unusedVariables false
set_option linter.unusedSimpArgs false
attribute [local irreducible] fi dN xx rtN rtOk pw fa fs fm yB getOk getX

theorem bytes_l (l : List UInt8) (h : l.length = 32) : BytesOf (lCells l).toArray (fun j => (l.getD j 0).toNat) := by
  refine ⟨by simp [lCells, h], fun j => UInt8.toNat_lt _, fun j hj => ?_⟩
  have hj2 : j < l.length := by omega
  simp [lCells, List.getD, hj2]

set_option maxRecDepth 100000 in
set_option maxHeartbeats 20000000 in
theorem PointTimes_walk (l0 l1 : List UInt8) (w : World) (h0 : l0.length = 32) (h1 : l1.length = 32) : Calls Try.prog 6 #[.agg (lCells l0).toArray, .agg (lCells l1).toArray] w fun e w' => e = .returned (.bool true) ∧ Below w.heap.size w w' := by
  have HTW := Lib.hid (fun w' => two_p l0 h0 w')
  have HSL := Lib.hid (show (lCells l0).toArray.size = 32 by simp [lCells, h0])
  have HBY := Lib.hid (bytes_l l1 h1)
  clear h0 h1
  generalize (fun j => (l1.getD j 0).toNat) = f at *
  generalize (lCells l0).toArray = nA at *
  generalize (lCells l1).toArray = nB at *
  go_enter Try.func6, Try.ntmps6
  go_upto_region 1 with fail
  have hN : Box ((w.alloc (.cells nA 39)).alloc (.cells nB 39)) w.heap.size 39 nA := ((Box.new w 39 nA).alloc (.cells nB 39))
  have lN : w.heap.size ≤ w.heap.size := by omega
  have hK : Box ((w.alloc (.cells nA 39)).alloc (.cells nB 39)) (w.heap.size + 1) 39 nB := by
    have := (Box.new (w.alloc (.cells nA 39)) 39 nB)
    simp only [World.size_alloc] at this
    exact this
  have lK : w.heap.size ≤ (w.heap.size + 1) := by omega
  have n_N_K : w.heap.size ≠ (w.heap.size + 1) := by omega
  have n_K_N : (w.heap.size + 1) ≠ w.heap.size := by omega
  have hB : Below w.heap.size w ((w.alloc (.cells nA 39)).alloc (.cells nB 39)) := (((Below.refl w.heap.size w).alloc (by simp; try omega) (.cells nA 39)).alloc (by simp; try omega) (.cells nB 39))
  have hS := hB.size
  change Code.wp _ _ _ _ ((w.alloc (.cells nA 39)).alloc (.cells nB 39))
  generalize ((w.alloc (.cells nA 39)).alloc (.cells nB 39)) = v0 at *
  go_step
  refine wpList_load_box rfl 39 _ rfl hN (by rfl) Try.underlying39 rfl (by rw [HSL.out]; kernel_rfl) ?_
  simp only [Act.put, List.setIfInBounds_toArray, List.set_cons_zero, List.set_cons_succ]
  refine wpList_enterR rfl 14 #[.agg nA] (by simp [go_sem]) _ (HTW.out _) ?_
  rintro e v1 ⟨ep, eq, ok, a, rfl, ht, bv1⟩
  refine ⟨_, rfl, ?_⟩
  simp only [Act.put, List.setIfInBounds_toArray, List.set_cons_zero, List.set_cons_succ]
  replace hN := hN.after bv1
  replace hK := hK.after bv1
  replace hB := hB.trans (bv1.mono hS)
  replace hS := Nat.le_trans hS bv1.size
  clear bv1
  have TW := Lib.hid ht
  clear ht HTW
  refine wpList_value rfl (.tuple #[.agg ep, .agg eq, .bool ok]) (by simp [go_sem]) ?_
  simp only [Act.put, List.setIfInBounds_toArray, List.set_cons_zero, List.set_cons_succ]
  refine wpList_value rfl (.agg ep) (by simp [go_sem]) ?_
  simp only [Act.put, List.setIfInBounds_toArray, List.set_cons_zero, List.set_cons_succ]
  refine wpList_value rfl (.agg eq) (by simp [go_sem]) ?_
  simp only [Act.put, List.setIfInBounds_toArray, List.set_cons_zero, List.set_cons_succ]
  refine wpList_value rfl (.bool ok) (by simp [go_sem]) ?_
  simp only [Act.put, List.setIfInBounds_toArray, List.set_cons_zero, List.set_cons_succ]
  refine wpList_new rfl 29 rfl #[.int .u64 0, .int .u64 0, .int .u64 0, .int .u64 0, .int .u64 0, .int .u64 0, .int .u64 0, .int .u64 0, .int .u64 0, .int .u64 0, .int .u64 0, .int .u64 0, .int .u64 0, .int .u64 0, .int .u64 0, .int .u64 0, .int .u64 0, .int .u64 0, .int .u64 0, .int .u64 0] (by intro w; simp [go_sem]) ?_
  intro gP v2 hP lP bv2
  simp only [Act.put, List.setIfInBounds_toArray, List.set_cons_zero, List.set_cons_succ]
  have n_N_P := hN.before lP
  have n_P_N := hN.behind lP
  have n_K_P := hK.before lP
  have n_P_K := hK.behind lP
  replace lP := Nat.le_trans hS lP
  replace hN := hN.after bv2
  replace hK := hK.after bv2
  replace hB := hB.trans (bv2.mono hS)
  replace hS := Nat.le_trans hS bv2.size
  clear bv2
  refine wpList_new rfl 36 rfl (Array.replicate 48 (Value.int .u64 0)) (by intro w; simp [go_sem]; rfl) ?_
  intro gQ v3 hQ lQ bv3
  simp only [Act.put, List.setIfInBounds_toArray, List.set_cons_zero, List.set_cons_succ]
  have n_N_Q := hN.before lQ
  have n_Q_N := hN.behind lQ
  have n_K_Q := hK.before lQ
  have n_Q_K := hK.behind lQ
  have n_P_Q := hP.before lQ
  have n_Q_P := hP.behind lQ
  replace lQ := Nat.le_trans hS lQ
  replace hN := hN.after bv3
  replace hK := hK.after bv3
  replace hP := hP.after bv3
  replace hB := hB.trans (bv3.mono hS)
  replace hS := Nat.le_trans hS bv3.size
  clear bv3
  refine wpList_store_box (cells := ep) rfl 29 (.tmp 5) (.tmp 11) rfl hP (by rfl) (by rfl) (by rw [TW.out.s1]; rfl) (by rw [TW.out.s1]; kernel_rfl) (TW.out.o1) ?_
  intro v4 hP_ stv4
  simp only [Act.put]
  replace hN := stv4.box hN n_N_P
  replace hK := stv4.box hK n_K_P
  replace hQ := stv4.box hQ n_Q_P
  replace hB := stv4.below w.heap.size w lP hB
  replace hS := Nat.le_trans hS (Nat.le_of_eq stv4.size.symm)
  clear hP stv4
  have hP := hP_
  clear hP_
  refine wpList_store_box (cells := eq) rfl 36 (.tmp 6) (.tmp 12) rfl hQ (by rfl) (by rfl) (by rw [TW.out.s2]; rfl) (by rw [TW.out.s2]; kernel_rfl) (TW.out.o2) ?_
  intro v5 hQ_ stv5
  simp only [Act.put]
  replace hN := stv5.box hN n_N_Q
  replace hK := stv5.box hK n_K_Q
  replace hP := stv5.box hP n_P_Q
  replace hB := stv5.below w.heap.size w lQ hB
  replace hS := Nat.le_trans hS (Nat.le_of_eq stv5.size.symm)
  clear hQ stv5
  have hQ := hQ_
  clear hQ_
  refine wpList_value rfl (.bool ok) (by simp [go_sem]) ?_
  simp only [Act.put, List.setIfInBounds_toArray, List.set_cons_zero, List.set_cons_succ]
  cases ok with
  | false =>
    go_upto_region 3 with fail
    have hKS : Keeps (fun w' => Box w' gP 29 ep ∧ Box w' gQ 36 eq ∧ Box w' (w.heap.size + 1) 39 nB ∧ Below w.heap.size w w') := fun w1 w2 h b => ⟨h.1.after b, h.2.1.after b, h.2.2.1.after b, h.2.2.2.trans (b.mono h.2.2.2.size)⟩
    refine wp_region_U (w := v5) (fun w' => Box w' gP 29 ep ∧ Box w' gQ 36 eq ∧ Box w' (w.heap.size + 1) 39 nB ∧ Below w.heap.size w w') rfl (hKS _ _ ⟨hP, hQ, hK, hB⟩ (Below.refl _ _).drew) ?_
    refine wpU_val 1 hKS rfl (by kernel_rfl) (by kernel_rfl) (by kernel_rfl) rfl (fun _ _ _ _ h => h) (.agg nB) (fun w' h => run_load_box rfl h.2.2.1 (by simp [go_sem]) Try.underlying39 rfl (by rw [HBY.out.size]; kernel_rfl)) ?_
    simp only [Act.put, List.setIfInBounds_toArray, List.set_cons_zero, List.set_cons_succ]
    refine wpU_val 4 hKS rfl (by kernel_rfl) (by kernel_rfl) (by kernel_rfl) rfl (fun _ _ _ _ h => h) (.slice (some ⟨w.heap.size + 1, 0, none⟩) 32 32) (fun w' h => by simp [go_sem]) ?_
    simp only [Act.put, List.setIfInBounds_toArray, List.set_cons_zero, List.set_cons_succ]
    refine wpU_one 0 rfl (by kernel_rfl) rfl ?_
    intro y1 c1 s1
    refine wp_callR 21 #[] (by simp [go_sem]) _ (base_p y1) ?_
    rintro e_ z1 ⟨eb, rfl, he, b1⟩
    have Heb := Lib.hid he
    refine ⟨_, rfl, hKS _ _ s1 b1, ?_⟩
    clear he s1 b1 c1
    simp only [Act.put, List.setIfInBounds_toArray, List.set_cons_zero, List.set_cons_succ]
    refine wpU_one 2 rfl (by kernel_rfl) rfl ?_
    intro y2 c2 s2
    refine wp_callR 22 #[.agg eb, .agg nB] (by simp [go_sem]) _ (times_is pbase eb nB f Heb.out Heb.out.ok HBY.out y2) ?_
    rintro e_ z2 ⟨et, rfl, he, b2⟩
    have Het := Lib.hid he
    refine ⟨_, rfl, hKS _ _ s2 b2, ?_⟩
    clear he s2 b2 c2
    simp only [Act.put, List.setIfInBounds_toArray, List.set_cons_zero, List.set_cons_succ]
    refine wpU_one 3 rfl (by kernel_rfl) rfl ?_
    intro y3 c3 s3
    refine wp_callR 23 #[] (by simp [go_sem]) _ (refBase_p y3) ?_
    rintro e_ z3 ⟨er, rfl, he, b3⟩
    have Her := Lib.hid he
    refine ⟨_, rfl, hKS _ _ s3 b3, ?_⟩
    clear he s3 b3 c3
    simp only [Act.put, List.setIfInBounds_toArray, List.set_cons_zero, List.set_cons_succ]
    refine wpU_one 5 rfl (by kernel_rfl) rfl ?_
    intro y4 c4 s4
    refine wp_callR 24 #[.agg er, .slice (some ⟨w.heap.size + 1, 0, none⟩) 32 32] (by simp [go_sem]) _ (refTimes_is pbase er (w.heap.size + 1) 0 f Her.out Heb.out.ok HBY.out.lt y4 s4.2.2.1.lt (fun j hj => s4.2.2.1.cell (0 + j) (by rw [Nat.zero_add]; exact HBY.out.get j hj))) ?_
    rintro e_ z4 ⟨es, rfl, he, b4⟩
    have Hes := Lib.hid he
    refine ⟨_, rfl, hKS _ _ s4 b4, ?_⟩
    clear he s4 b4 c4
    simp only [Act.put, List.setIfInBounds_toArray, List.set_cons_zero, List.set_cons_succ]
    refine wpU_call 6 hKS rfl (by kernel_rfl) (by kernel_rfl) (by kernel_rfl) rfl (fun _ _ _ _ h => h) 13 #[.agg et, .agg es] (fun w => by simp [go_sem]) (.bool true) (fun w' => same7_p Het.out Hes.out w') ?_
    simp only [Act.put, List.setIfInBounds_toArray, List.set_cons_zero, List.set_cons_succ]
    refine wpU_val 7 hKS rfl (by kernel_rfl) (by kernel_rfl) (by kernel_rfl) rfl (fun _ _ _ _ h => h) (.bool true) (fun w' h => by simp [go_sem]) ?_
    simp only [Act.put, List.setIfInBounds_toArray, List.set_cons_zero, List.set_cons_succ]
    refine wpU_call 8 hKS rfl (by kernel_rfl) (by kernel_rfl) (by kernel_rfl) rfl (fun _ _ _ _ h => h) 9 #[] (fun w => by simp [go_sem]) (.bool true) (fun w' => awake7_any w') ?_
    simp only [Act.put, List.setIfInBounds_toArray, List.set_cons_zero, List.set_cons_succ]
    refine wpU_val 9 hKS rfl (by kernel_rfl) (by kernel_rfl) (by kernel_rfl) rfl (fun _ _ _ _ h => h) (.bool true) (fun w' h => by simp [go_sem]) ?_
    simp only [Act.put, List.setIfInBounds_toArray, List.set_cons_zero, List.set_cons_succ]
    refine wpU_val 10 hKS rfl (by kernel_rfl) (by kernel_rfl) (by kernel_rfl) rfl (fun _ _ _ _ h => h) (.bool true) (fun w' h => by simp [go_sem]) ?_
    simp only [Act.put, List.setIfInBounds_toArray, List.set_cons_zero, List.set_cons_succ]
    refine wpU_done (by kernel_rfl) ?_
    intro z9 b9 s9
    have hB9 := s9.2.2.2
    clear s9 b9 hKS
    go_wp2_with fail
    go_ret
    exact ⟨rfl, hB9⟩
  | true =>
    go_upto_region 4 with fail
    have hKS : Keeps (fun w' => Box w' gP 29 ep ∧ Box w' gQ 36 eq ∧ Box w' (w.heap.size + 1) 39 nB ∧ Below w.heap.size w w') := fun w1 w2 h b => ⟨h.1.after b, h.2.1.after b, h.2.2.1.after b, h.2.2.2.trans (b.mono h.2.2.2.size)⟩
    refine wp_region_U (w := v5) (fun w' => Box w' gP 29 ep ∧ Box w' gQ 36 eq ∧ Box w' (w.heap.size + 1) 39 nB ∧ Below w.heap.size w w') rfl (hKS _ _ ⟨hP, hQ, hK, hB⟩ (Below.refl _ _).drew) ?_
    obtain ⟨ha, hq⟩ := TW.out.is rfl
    have HA := Lib.hid ha
    have HQ := Lib.hid hq
    clear ha hq
    refine wpU_val 0 hKS rfl (by kernel_rfl) (by kernel_rfl) (by kernel_rfl) rfl (fun _ _ _ _ h => h) (.agg ep) (fun w' h => run_load_box rfl h.1 (by simp [go_sem]) Try.underlying29 rfl (by rw [HA.out.size]; kernel_rfl)) ?_
    simp only [Act.put, List.setIfInBounds_toArray, List.set_cons_zero, List.set_cons_succ]
    refine wpU_val 1 hKS rfl (by kernel_rfl) (by kernel_rfl) (by kernel_rfl) rfl (fun _ _ _ _ h => h) (.agg nB) (fun w' h => run_load_box rfl h.2.2.1 (by simp [go_sem]) Try.underlying39 rfl (by rw [HBY.out.size]; kernel_rfl)) ?_
    simp only [Act.put, List.setIfInBounds_toArray, List.set_cons_zero, List.set_cons_succ]
    refine wpU_val 3 hKS rfl (by kernel_rfl) (by kernel_rfl) (by kernel_rfl) rfl (fun _ _ _ _ h => h) (.agg eq) (fun w' h => run_load_box rfl h.2.1 (by simp [go_sem]) Try.underlying36 rfl (by rw [HQ.out.size]; kernel_rfl)) ?_
    simp only [Act.put, List.setIfInBounds_toArray, List.set_cons_zero, List.set_cons_succ]
    refine wpU_val 4 hKS rfl (by kernel_rfl) (by kernel_rfl) (by kernel_rfl) rfl (fun _ _ _ _ h => h) (.slice (some ⟨w.heap.size + 1, 0, none⟩) 32 32) (fun w' h => by simp [go_sem]) ?_
    simp only [Act.put, List.setIfInBounds_toArray, List.set_cons_zero, List.set_cons_succ]
    refine wpU_one 2 rfl (by kernel_rfl) rfl ?_
    intro y1 c1 s1
    refine wp_callR 22 #[.agg ep, .agg nB] (by simp [go_sem]) _ (times_is a ep nB f HA.out HA.out.ok HBY.out y1) ?_
    rintro e_ z1 ⟨et, rfl, he, b1⟩
    have Het := Lib.hid he
    refine ⟨_, rfl, hKS _ _ s1 b1, ?_⟩
    clear he s1 b1 c1
    simp only [Act.put, List.setIfInBounds_toArray, List.set_cons_zero, List.set_cons_succ]
    refine wpU_one 5 rfl (by kernel_rfl) rfl ?_
    intro y2 c2 s2
    refine wp_callR 24 #[.agg eq, .slice (some ⟨w.heap.size + 1, 0, none⟩) 32 32] (by simp [go_sem]) _ (refTimes_is a eq (w.heap.size + 1) 0 f HQ.out HA.out.ok HBY.out.lt y2 s2.2.2.1.lt (fun j hj => s2.2.2.1.cell (0 + j) (by rw [Nat.zero_add]; exact HBY.out.get j hj))) ?_
    rintro e_ z2 ⟨es, rfl, he, b2⟩
    have Hes := Lib.hid he
    refine ⟨_, rfl, hKS _ _ s2 b2, ?_⟩
    clear he s2 b2 c2
    simp only [Act.put, List.setIfInBounds_toArray, List.set_cons_zero, List.set_cons_succ]
    refine wpU_call 6 hKS rfl (by kernel_rfl) (by kernel_rfl) (by kernel_rfl) rfl (fun _ _ _ _ h => h) 13 #[.agg et, .agg es] (fun w => by simp [go_sem]) (.bool true) (fun w' => same7_p Het.out Hes.out w') ?_
    simp only [Act.put, List.setIfInBounds_toArray, List.set_cons_zero, List.set_cons_succ]
    refine wpU_val 7 hKS rfl (by kernel_rfl) (by kernel_rfl) (by kernel_rfl) rfl (fun _ _ _ _ h => h) (.bool true) (fun w' h => by simp [go_sem]) ?_
    simp only [Act.put, List.setIfInBounds_toArray, List.set_cons_zero, List.set_cons_succ]
    refine wpU_call 8 hKS rfl (by kernel_rfl) (by kernel_rfl) (by kernel_rfl) rfl (fun _ _ _ _ h => h) 9 #[] (fun w => by simp [go_sem]) (.bool true) (fun w' => awake7_any w') ?_
    simp only [Act.put, List.setIfInBounds_toArray, List.set_cons_zero, List.set_cons_succ]
    refine wpU_val 9 hKS rfl (by kernel_rfl) (by kernel_rfl) (by kernel_rfl) rfl (fun _ _ _ _ h => h) (.bool true) (fun w' h => by simp [go_sem]) ?_
    simp only [Act.put, List.setIfInBounds_toArray, List.set_cons_zero, List.set_cons_succ]
    refine wpU_val 10 hKS rfl (by kernel_rfl) (by kernel_rfl) (by kernel_rfl) rfl (fun _ _ _ _ h => h) (.bool true) (fun w' h => by simp [go_sem]) ?_
    simp only [Act.put, List.setIfInBounds_toArray, List.set_cons_zero, List.set_cons_succ]
    refine wpU_done (by kernel_rfl) ?_
    intro z9 b9 s9
    have hB9 := s9.2.2.2
    clear s9 b9 hKS
    go_wp2_with fail
    go_ret
    exact ⟨rfl, hB9⟩

end Go.Proofs.Ytpkoniebbkkmjaa

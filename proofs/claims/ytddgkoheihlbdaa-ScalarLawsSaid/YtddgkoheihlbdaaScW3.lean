/- scalar: the law ScalarLaws: the walk. -/
import Derived.Test.YtddgkoheihlbdaaScW2
namespace Go.Proofs.Ytddgkoheihlbdaa
open Go.RowKit

theorem bts_one1 : bts 1 = #[Value.int .u8 1, Value.int .u8 0, Value.int .u8 0, Value.int .u8 0, Value.int .u8 0, Value.int .u8 0, Value.int .u8 0, Value.int .u8 0, Value.int .u8 0, Value.int .u8 0, Value.int .u8 0, Value.int .u8 0, Value.int .u8 0, Value.int .u8 0, Value.int .u8 0, Value.int .u8 0, Value.int .u8 0, Value.int .u8 0, Value.int .u8 0, Value.int .u8 0, Value.int .u8 0, Value.int .u8 0, Value.int .u8 0, Value.int .u8 0, Value.int .u8 0, Value.int .u8 0, Value.int .u8 0, Value.int .u8 0, Value.int .u8 0, Value.int .u8 0, Value.int .u8 0, Value.int .u8 0] := by kernel_rfl
theorem small_bytes (n : Nat) (h : n < LL) : leNat (leBytes n 32) = n := by rw [leNat_leBytes, Nat.mod_eq_of_lt (Nat.lt_trans h LL_pow)]
theorem bts_cells (n : Nat) : bts n = (lCells (leBytes n 32)).toArray := rfl
theorem law_mod (a b c : Nat) : (a * ((b + c) % LL) + 0) % LL = (1 * ((a * b + 0) % LL) + (a * c + 0) % LL) % LL := by
  simp only [Nat.add_zero, Nat.one_mul]
  rw [← Nat.add_mod, Nat.mul_mod, Nat.mod_mod, ← Nat.mul_mod, Nat.mul_add]

set_option maxRecDepth 100000 in
set_option maxHeartbeats 20000000 in
theorem ScalarLaws_walk (l0 l1 l2 : List UInt8) (w : World) (w0 : l0.length = 32) (w1 : l1.length = 32) (w2 : l2.length = 32) :
    Calls Try.prog 7 #[.agg (lCells l0).toArray, .agg (lCells l1).toArray, .agg (lCells l2).toArray] w fun e w' => e = .returned (.bool true) ∧ Below w.heap.size w w' := by
  have HAS := Lib.hid (show (lCells l0).toArray.size = 32 by simp [lCells, w0])
  have HBS := Lib.hid (show (lCells l1).toArray.size = 32 by simp [lCells, w1])
  have HCS := Lib.hid (show (lCells l2).toArray.size = 32 by simp [lCells, w2])
  have HSA := Lib.hid (fun w g (h : Box w g 40 (lCells l0).toArray) => sl_arr h w0)
  have HAW := Lib.hid (fun w : World => awake6_any w)
  have hLL : 0 < LL := by unfold LL; omega
  have hm : ∀ x, x % LL < LL := fun x => Nat.mod_lt _ hLL
  have n0 : leNat (leBytes 0 32) = 0 := small_bytes 0 hLL
  have n1 : leNat (leBytes 1 32) = 1 := small_bytes 1 (by unfold LL; omega)
  have H1 := Lib.hid (fun w => mulAdd_any l0 l1 (leBytes 0 32) w w0 w1 (leBytes_len _ _))
  have H2 := Lib.hid (fun w => mulAdd_any l0 l2 (leBytes 0 32) w w0 w2 (leBytes_len _ _))
  have H3 := Lib.hid (fun w => mulAdd_any (leBytes 1 32) l1 l2 w (leBytes_len _ _) w1 w2)
  rw [n0] at H1 H2
  rw [n1, Nat.one_mul] at H3
  have H4 := Lib.hid (fun w => mulAdd_any l0 (leBytes ((leNat l1 + leNat l2) % LL) 32) (leBytes 0 32) w w0 (leBytes_len _ _) (leBytes_len _ _))
  have H5 := Lib.hid (fun w => mulAdd_any (leBytes 1 32) (leBytes ((leNat l0 * leNat l1 + 0) % LL) 32) (leBytes ((leNat l0 * leNat l2 + 0) % LL) 32) w (leBytes_len _ _) (leBytes_len _ _) (leBytes_len _ _))
  have H6 := Lib.hid (fun w => mulAdd_any (leBytes 1 32) l0 (leBytes 0 32) w (leBytes_len _ _) w0 (leBytes_len _ _))
  have H7 := Lib.hid (fun w g (h : Box w g 40 (lCells l0).toArray) => reduce_any (some ⟨g, 0, none⟩) 32 32 l0 w (HSA.out w g h))
  rw [small_bytes _ (hm _), n0, law_mod] at H4
  rw [small_bytes _ (hm _), small_bytes _ (hm _), n1] at H5
  rw [n1, n0, Nat.one_mul, Nat.add_zero] at H6
  simp only [← bts_cells] at H1 H2 H3 H4 H5 H6
  generalize (1 * ((leNat l0 * leNat l1 + 0) % LL) + (leNat l0 * leNat l2 + 0) % LL) % LL = x4 at *
  generalize (leNat l0 * leNat l1 + 0) % LL = x1 at *
  generalize (leNat l0 * leNat l2 + 0) % LL = x2 at *
  generalize (leNat l1 + leNat l2) % LL = x3 at *
  generalize leNat l0 % LL = x5 at *
  clear n0 n1 hm hLL
  have HEQ4 := Lib.hid (fun w => eq_same x4 w)
  have HEQ5 := Lib.hid (fun w => eq_same x5 w)
  have HS1 := Lib.hid (bts_size x1)
  have HS2 := Lib.hid (bts_size x2)
  have HS3 := Lib.hid (bts_size x3)
  have HS4 := Lib.hid (bts_one x1)
  have HS5 := Lib.hid (bts_one x2)
  have HS6 := Lib.hid (bts_one x3)
  have HZ0 := Lib.hid bts_zero
  have HZ1 := Lib.hid bts_one1
  have HZS0 := Lib.hid (bts_size 0)
  have HZS1 := Lib.hid (bts_size 1)
  have HZO0 := Lib.hid (bts_one 0)
  have HZO1 := Lib.hid (bts_one 1)
  obtain ⟨X0, hX0⟩ : ∃ X0, X0 = bts 0 := ⟨_, rfl⟩
  obtain ⟨X9, hX9⟩ : ∃ X9, X9 = bts 1 := ⟨_, rfl⟩
  obtain ⟨X1, hX1⟩ : ∃ X1, X1 = bts x1 := ⟨_, rfl⟩
  obtain ⟨X2, hX2⟩ : ∃ X2, X2 = bts x2 := ⟨_, rfl⟩
  obtain ⟨X3, hX3⟩ : ∃ X3, X3 = bts x3 := ⟨_, rfl⟩
  obtain ⟨X4, hX4⟩ : ∃ X4, X4 = bts x4 := ⟨_, rfl⟩
  obtain ⟨X5, hX5⟩ : ∃ X5, X5 = bts x5 := ⟨_, rfl⟩
  simp only [← hX0, ← hX9, ← hX1, ← hX2, ← hX3, ← hX4, ← hX5] at H1 H2 H3 H4 H5 H6 H7 HEQ4 HEQ5 HS1 HS2 HS3 HS4 HS5 HS6 HZ0 HZ1 HZS0 HZS1 HZO0 HZO1
  clear hX0 hX9 hX1 hX2 hX3 hX4 hX5
  obtain ⟨LA, hLA⟩ : ∃ LA, LA = (lCells l0).toArray := ⟨_, rfl⟩
  obtain ⟨LM, hLM⟩ : ∃ LM, LM = (lCells l1).toArray := ⟨_, rfl⟩
  obtain ⟨LC, hLC⟩ : ∃ LC, LC = (lCells l2).toArray := ⟨_, rfl⟩
  simp only [← hLA, ← hLM, ← hLC] at HAS HBS HCS HSA H1 H2 H3 H4 H6 H7 ⊢
  clear hLA hLM hLC w0 w1 w2
  go_enter Try.func7, Try.ntmps7
  go_upto_region 1 with fail
  have hba : Box (((w.alloc (.cells LA 40)).alloc (.cells LM 40)).alloc (.cells LC 40)) w.heap.size 40 LA := (((Box.new w 40 LA).alloc (.cells LM 40)).alloc (.cells LC 40))
  have lba : w.heap.size ≤ w.heap.size := by omega
  have hbb : Box (((w.alloc (.cells LA 40)).alloc (.cells LM 40)).alloc (.cells LC 40)) (w.heap.size + 1) 40 LM := by
    have := ((Box.new (w.alloc (.cells LA 40)) 40 LM).alloc (.cells LC 40))
    simp only [World.size_alloc] at this
    exact this
  have lbb : w.heap.size ≤ (w.heap.size + 1) := by omega
  have n_ba_bb : w.heap.size ≠ (w.heap.size + 1) := by omega
  have n_bb_ba : (w.heap.size + 1) ≠ w.heap.size := by omega
  have hbc : Box (((w.alloc (.cells LA 40)).alloc (.cells LM 40)).alloc (.cells LC 40)) (w.heap.size + 2) 40 LC := by
    have := (Box.new ((w.alloc (.cells LA 40)).alloc (.cells LM 40)) 40 LC)
    simp only [World.size_alloc, Nat.add_assoc, Nat.reduceAdd] at this
    exact this
  have lbc : w.heap.size ≤ (w.heap.size + 2) := by omega
  have n_ba_bc : w.heap.size ≠ (w.heap.size + 2) := by omega
  have n_bc_ba : (w.heap.size + 2) ≠ w.heap.size := by omega
  have n_bb_bc : (w.heap.size + 1) ≠ (w.heap.size + 2) := by omega
  have n_bc_bb : (w.heap.size + 2) ≠ (w.heap.size + 1) := by omega
  have hB : Below w.heap.size w (((w.alloc (.cells LA 40)).alloc (.cells LM 40)).alloc (.cells LC 40)) := ((((Below.refl w.heap.size w).alloc (by simp; try omega) (.cells LA 40)).alloc (by simp; try omega) (.cells LM 40)).alloc (by simp; try omega) (.cells LC 40))
  have hS := hB.size
  change Code.wp _ _ _ _ (((w.alloc (.cells LA 40)).alloc (.cells LM 40)).alloc (.cells LC 40))
  generalize (((w.alloc (.cells LA 40)).alloc (.cells LM 40)).alloc (.cells LC 40)) = v0 at *
  go_upto_region 1 with fail
  go_step
  refine wpList_value rfl (.agg X9) (by rw [HZ1.out]; simp [go_sem]) ?_
  simp only [Act.put, List.setIfInBounds_toArray, List.set_cons_zero, List.set_cons_succ]
  refine wpList_new rfl 40 rfl #[.int .u8 0, .int .u8 0, .int .u8 0, .int .u8 0, .int .u8 0, .int .u8 0, .int .u8 0, .int .u8 0, .int .u8 0, .int .u8 0, .int .u8 0, .int .u8 0, .int .u8 0, .int .u8 0, .int .u8 0, .int .u8 0, .int .u8 0, .int .u8 0, .int .u8 0, .int .u8 0, .int .u8 0, .int .u8 0, .int .u8 0, .int .u8 0, .int .u8 0, .int .u8 0, .int .u8 0, .int .u8 0, .int .u8 0, .int .u8 0, .int .u8 0, .int .u8 0] (by intro w; simp [go_sem]) ?_
  intro gb1 v1 hb1 lb1 bv1
  simp only [Act.put, List.setIfInBounds_toArray, List.set_cons_zero, List.set_cons_succ]
  have n_ba_b1 := hba.before lb1
  have n_b1_ba := hba.behind lb1
  have n_bb_b1 := hbb.before lb1
  have n_b1_bb := hbb.behind lb1
  have n_bc_b1 := hbc.before lb1
  have n_b1_bc := hbc.behind lb1
  replace lb1 := Nat.le_trans hS lb1
  replace hba := hba.after bv1
  replace hbb := hbb.after bv1
  replace hbc := hbc.after bv1
  replace hB := hB.trans (bv1.mono hS)
  replace hS := Nat.le_trans hS bv1.size
  clear bv1
  refine wpList_store_box (cells := X9) rfl 40 (.tmp 7) (.tmp 12) rfl hb1 (by rfl) (by rfl) (by rw [HZS1.out]; rfl) (by rw [HZS1.out]; kernel_rfl) (HZO1.out) ?_
  intro v2 hb1_ stv2
  simp only [Act.put]
  replace hba := stv2.box hba n_ba_b1
  replace hbb := stv2.box hbb n_bb_b1
  replace hbc := stv2.box hbc n_bc_b1
  replace hB := stv2.below w.heap.size w lb1 hB
  replace hS := Nat.le_trans hS (Nat.le_of_eq stv2.size.symm)
  clear hb1 stv2
  have hb1 := hb1_
  clear hb1_
  go_upto_region 2 with fail
  go_step
  refine wpList_value rfl (.agg X0) (by rw [HZ0.out]; simp [go_sem]) ?_
  simp only [Act.put, List.setIfInBounds_toArray, List.set_cons_zero, List.set_cons_succ]
  refine wpList_new rfl 40 rfl #[.int .u8 0, .int .u8 0, .int .u8 0, .int .u8 0, .int .u8 0, .int .u8 0, .int .u8 0, .int .u8 0, .int .u8 0, .int .u8 0, .int .u8 0, .int .u8 0, .int .u8 0, .int .u8 0, .int .u8 0, .int .u8 0, .int .u8 0, .int .u8 0, .int .u8 0, .int .u8 0, .int .u8 0, .int .u8 0, .int .u8 0, .int .u8 0, .int .u8 0, .int .u8 0, .int .u8 0, .int .u8 0, .int .u8 0, .int .u8 0, .int .u8 0, .int .u8 0] (by intro w; simp [go_sem]) ?_
  intro gb0 v3 hb0 lb0 bv3
  simp only [Act.put, List.setIfInBounds_toArray, List.set_cons_zero, List.set_cons_succ]
  have n_ba_b0 := hba.before lb0
  have n_b0_ba := hba.behind lb0
  have n_bb_b0 := hbb.before lb0
  have n_b0_bb := hbb.behind lb0
  have n_bc_b0 := hbc.before lb0
  have n_b0_bc := hbc.behind lb0
  have n_b1_b0 := hb1.before lb0
  have n_b0_b1 := hb1.behind lb0
  replace lb0 := Nat.le_trans hS lb0
  replace hba := hba.after bv3
  replace hbb := hbb.after bv3
  replace hbc := hbc.after bv3
  replace hb1 := hb1.after bv3
  replace hB := hB.trans (bv3.mono hS)
  replace hS := Nat.le_trans hS bv3.size
  clear bv3
  refine wpList_store_box (cells := X0) rfl 40 (.tmp 8) (.tmp 13) rfl hb0 (by rfl) (by rfl) (by rw [HZS0.out]; rfl) (by rw [HZS0.out]; kernel_rfl) (HZO0.out) ?_
  intro v4 hb0_ stv4
  simp only [Act.put]
  replace hba := stv4.box hba n_ba_b0
  replace hbb := stv4.box hbb n_bb_b0
  replace hbc := stv4.box hbc n_bc_b0
  replace hb1 := stv4.box hb1 n_b1_b0
  replace hB := stv4.below w.heap.size w lb0 hB
  replace hS := Nat.le_trans hS (Nat.le_of_eq stv4.size.symm)
  clear hb0 stv4
  have hb0 := hb0_
  clear hb0_
  go_upto_region 3 with fail
  have hKS : Keeps (fun w' => Box w' w.heap.size 40 (LA) ∧ Box w' (w.heap.size + 1) 40 (LM) ∧ Box w' (w.heap.size + 2) 40 (LC) ∧ Box w' gb0 40 (X0)) := fun w w' h b => ⟨h.1.after b, h.2.1.after b, h.2.2.1.after b, h.2.2.2.after b⟩
  refine wp_region_U (w := v4) (fun w' => Box w' w.heap.size 40 (LA) ∧ Box w' (w.heap.size + 1) 40 (LM) ∧ Box w' (w.heap.size + 2) 40 (LC) ∧ Box w' gb0 40 (X0)) rfl (⟨hba.drew, hbb.drew, hbc.drew, hb0.drew⟩) ?_
  replace hba := hba.drew
  replace hbb := hbb.drew
  replace hbc := hbc.drew
  replace hb1 := hb1.drew
  replace hb0 := hb0.drew
  replace hB := hB.drew
  replace hS := Nat.le_trans hS (show v4.heap.size ≤ v4.drew.heap.size from Nat.le_refl _)
  refine wpU_val 0 hKS rfl (by kernel_rfl) (by kernel_rfl) (by kernel_rfl) rfl (fun _ _ _ _ h => h) (.agg (LA)) (fun w' h => run_load_box rfl h.1 (by simp [go_sem]) Try.underlying40 rfl (by rw [HAS.out]; kernel_rfl)) ?_
  simp only [Act.put, List.setIfInBounds_toArray, List.set_cons_zero, List.set_cons_succ]
  refine wpU_val 1 hKS rfl (by kernel_rfl) (by kernel_rfl) (by kernel_rfl) rfl (fun _ _ _ _ h => h) (.agg (LM)) (fun w' h => run_load_box rfl h.2.1 (by simp [go_sem]) Try.underlying40 rfl (by rw [HBS.out]; kernel_rfl)) ?_
  simp only [Act.put, List.setIfInBounds_toArray, List.set_cons_zero, List.set_cons_succ]
  refine wpU_val 2 hKS rfl (by kernel_rfl) (by kernel_rfl) (by kernel_rfl) rfl (fun _ _ _ _ h => h) (.agg (X0)) (fun w' h => run_load_box rfl h.2.2.2 (by simp [go_sem]) Try.underlying40 rfl (by rw [HZS0.out]; kernel_rfl)) ?_
  simp only [Act.put, List.setIfInBounds_toArray, List.set_cons_zero, List.set_cons_succ]
  refine wpU_call 3 hKS rfl (by kernel_rfl) (by kernel_rfl) (by kernel_rfl) rfl (fun _ _ _ _ h => h) 31 #[.agg LA, .agg LM, .agg X0] (fun w => by simp [go_sem]) _ (H1.out) ?_
  simp only [Act.put, List.setIfInBounds_toArray, List.set_cons_zero, List.set_cons_succ]
  refine wpU_val 4 hKS rfl (by kernel_rfl) (by kernel_rfl) (by kernel_rfl) rfl (fun _ _ _ _ h => h) (.agg (LA)) (fun w' h => run_load_box rfl h.1 (by simp [go_sem]) Try.underlying40 rfl (by rw [HAS.out]; kernel_rfl)) ?_
  simp only [Act.put, List.setIfInBounds_toArray, List.set_cons_zero, List.set_cons_succ]
  refine wpU_val 5 hKS rfl (by kernel_rfl) (by kernel_rfl) (by kernel_rfl) rfl (fun _ _ _ _ h => h) (.agg (LC)) (fun w' h => run_load_box rfl h.2.2.1 (by simp [go_sem]) Try.underlying40 rfl (by rw [HCS.out]; kernel_rfl)) ?_
  simp only [Act.put, List.setIfInBounds_toArray, List.set_cons_zero, List.set_cons_succ]
  refine wpU_val 6 hKS rfl (by kernel_rfl) (by kernel_rfl) (by kernel_rfl) rfl (fun _ _ _ _ h => h) (.agg (X0)) (fun w' h => run_load_box rfl h.2.2.2 (by simp [go_sem]) Try.underlying40 rfl (by rw [HZS0.out]; kernel_rfl)) ?_
  simp only [Act.put, List.setIfInBounds_toArray, List.set_cons_zero, List.set_cons_succ]
  refine wpU_call 7 hKS rfl (by kernel_rfl) (by kernel_rfl) (by kernel_rfl) rfl (fun _ _ _ _ h => h) 31 #[.agg LA, .agg LC, .agg X0] (fun w => by simp [go_sem]) _ (H2.out) ?_
  simp only [Act.put, List.setIfInBounds_toArray, List.set_cons_zero, List.set_cons_succ]
  refine wpU_two 8 9 rfl rfl (by kernel_rfl) rfl rfl ?_ ?_
  · intro v5 bv5 sS
    replace hba := hba.after bv5
    replace hbb := hbb.after bv5
    replace hbc := hbc.after bv5
    replace hb1 := hb1.after bv5
    replace hb0 := hb0.after bv5
    replace hB := hB.trans (bv5.mono hS)
    replace hS := Nat.le_trans hS bv5.size
    clear bv5
    refine wp_alloc_new 40 rfl #[.int .u8 0, .int .u8 0, .int .u8 0, .int .u8 0, .int .u8 0, .int .u8 0, .int .u8 0, .int .u8 0, .int .u8 0, .int .u8 0, .int .u8 0, .int .u8 0, .int .u8 0, .int .u8 0, .int .u8 0, .int .u8 0, .int .u8 0, .int .u8 0, .int .u8 0, .int .u8 0, .int .u8 0, .int .u8 0, .int .u8 0, .int .u8 0, .int .u8 0, .int .u8 0, .int .u8 0, .int .u8 0, .int .u8 0, .int .u8 0, .int .u8 0, .int .u8 0] (by intro w; simp [go_sem]) ?_
    intro gb9 v6 hb9 lb9 bv6
    refine ⟨hKS _ _ sS bv6, ?_⟩
    have n_ba_b9 := hba.before lb9
    have n_b9_ba := hba.behind lb9
    have n_bb_b9 := hbb.before lb9
    have n_b9_bb := hbb.behind lb9
    have n_bc_b9 := hbc.before lb9
    have n_b9_bc := hbc.behind lb9
    have n_b1_b9 := hb1.before lb9
    have n_b9_b1 := hb1.behind lb9
    have n_b0_b9 := hb0.before lb9
    have n_b9_b0 := hb0.behind lb9
    replace lb9 := Nat.le_trans hS lb9
    replace sS := hKS _ _ sS bv6
    simp only [Act.put, List.setIfInBounds_toArray, List.set_cons_zero, List.set_cons_succ]
    replace hba := hba.after bv6
    replace hbb := hbb.after bv6
    replace hbc := hbc.after bv6
    replace hb1 := hb1.after bv6
    replace hb0 := hb0.after bv6
    replace hB := hB.trans (bv6.mono hS)
    replace hS := Nat.le_trans hS bv6.size
    clear bv6
    refine wpU_one 9 rfl (by kernel_rfl) rfl ?_
    intro v7 bv7 sS
    replace hba := hba.after bv7
    replace hbb := hbb.after bv7
    replace hbc := hbc.after bv7
    replace hb1 := hb1.after bv7
    replace hb0 := hb0.after bv7
    replace hb9 := hb9.after bv7
    replace hB := hB.trans (bv7.mono hS)
    replace hS := Nat.le_trans hS bv7.size
    clear bv7
    refine wp_alloc_new 40 rfl #[.int .u8 0, .int .u8 0, .int .u8 0, .int .u8 0, .int .u8 0, .int .u8 0, .int .u8 0, .int .u8 0, .int .u8 0, .int .u8 0, .int .u8 0, .int .u8 0, .int .u8 0, .int .u8 0, .int .u8 0, .int .u8 0, .int .u8 0, .int .u8 0, .int .u8 0, .int .u8 0, .int .u8 0, .int .u8 0, .int .u8 0, .int .u8 0, .int .u8 0, .int .u8 0, .int .u8 0, .int .u8 0, .int .u8 0, .int .u8 0, .int .u8 0, .int .u8 0] (by intro w; simp [go_sem]) ?_
    intro gb10 v8 hb10 lb10 bv8
    refine ⟨hKS _ _ sS bv8, ?_⟩
    have n_ba_b10 := hba.before lb10
    have n_b10_ba := hba.behind lb10
    have n_bb_b10 := hbb.before lb10
    have n_b10_bb := hbb.behind lb10
    have n_bc_b10 := hbc.before lb10
    have n_b10_bc := hbc.behind lb10
    have n_b1_b10 := hb1.before lb10
    have n_b10_b1 := hb1.behind lb10
    have n_b0_b10 := hb0.before lb10
    have n_b10_b0 := hb0.behind lb10
    have n_b9_b10 := hb9.before lb10
    have n_b10_b9 := hb9.behind lb10
    replace lb10 := Nat.le_trans hS lb10
    replace sS := hKS _ _ sS bv8
    simp only [Act.put, List.setIfInBounds_toArray, List.set_cons_zero, List.set_cons_succ]
    replace hba := hba.after bv8
    replace hbb := hbb.after bv8
    replace hbc := hbc.after bv8
    replace hb1 := hb1.after bv8
    replace hb0 := hb0.after bv8
    replace hb9 := hb9.after bv8
    replace hB := hB.trans (bv8.mono hS)
    replace hS := Nat.le_trans hS bv8.size
    clear bv8
    refine wpU_store_box (cells := X1) 10 rfl (by kernel_rfl) rfl 40 (.tmp 9) (.tmp 17) rfl hb9 (by simp [go_sem]) (by simp [go_sem]) (by rw [HS1.out]; rfl) (by rw [HS1.out]; kernel_rfl) (HS4.out) ?_
    intro v9 v10 bv9 sS hb9_ stv10
    refine ⟨⟨stv10.box sS.1 n_ba_b9, stv10.box sS.2.1 n_bb_b9, stv10.box sS.2.2.1 n_bc_b9, stv10.box sS.2.2.2 n_b0_b9⟩, ?_⟩
    simp only [Act.put]
    replace hba := hba.after bv9
    replace hbb := hbb.after bv9
    replace hbc := hbc.after bv9
    replace hb1 := hb1.after bv9
    replace hb0 := hb0.after bv9
    replace hb9 := hb9.after bv9
    replace hb10 := hb10.after bv9
    replace hB := hB.trans (bv9.mono hS)
    replace hS := Nat.le_trans hS bv9.size
    clear bv9
    replace hba := stv10.box hba n_ba_b9
    replace hbb := stv10.box hbb n_bb_b9
    replace hbc := stv10.box hbc n_bc_b9
    replace hb1 := stv10.box hb1 n_b1_b9
    replace hb0 := stv10.box hb0 n_b0_b9
    replace hb10 := stv10.box hb10 n_b10_b9
    replace hB := stv10.below w.heap.size w lb9 hB
    replace hS := Nat.le_trans hS (Nat.le_of_eq stv10.size.symm)
    clear hb9 stv10 sS
    have hb9 := hb9_
    clear hb9_
    refine wpU_store_box (cells := X2) 11 rfl (by kernel_rfl) rfl 40 (.tmp 10) (.tmp 21) rfl hb10 (by simp [go_sem]) (by simp [go_sem]) (by rw [HS2.out]; rfl) (by rw [HS2.out]; kernel_rfl) (HS5.out) ?_
    intro v11 v12 bv11 sS hb10_ stv12
    refine ⟨⟨stv12.box sS.1 n_ba_b10, stv12.box sS.2.1 n_bb_b10, stv12.box sS.2.2.1 n_bc_b10, stv12.box sS.2.2.2 n_b0_b10⟩, ?_⟩
    simp only [Act.put]
    replace hba := hba.after bv11
    replace hbb := hbb.after bv11
    replace hbc := hbc.after bv11
    replace hb1 := hb1.after bv11
    replace hb0 := hb0.after bv11
    replace hb9 := hb9.after bv11
    replace hb10 := hb10.after bv11
    replace hB := hB.trans (bv11.mono hS)
    replace hS := Nat.le_trans hS bv11.size
    clear bv11
    replace hba := stv12.box hba n_ba_b10
    replace hbb := stv12.box hbb n_bb_b10
    replace hbc := stv12.box hbc n_bc_b10
    replace hb1 := stv12.box hb1 n_b1_b10
    replace hb0 := stv12.box hb0 n_b0_b10
    replace hb9 := stv12.box hb9 n_b9_b10
    replace hB := stv12.below w.heap.size w lb10 hB
    replace hS := Nat.le_trans hS (Nat.le_of_eq stv12.size.symm)
    clear hb10 stv12 sS
    have hb10 := hb10_
    clear hb10_
    refine wpU_done (by kernel_rfl) ?_
    intro v13 bv13 sS
    clear hKS sS
    replace hba := hba.after bv13
    replace hbb := hbb.after bv13
    replace hbc := hbc.after bv13
    replace hb1 := hb1.after bv13
    replace hb0 := hb0.after bv13
    replace hb9 := hb9.after bv13
    replace hb10 := hb10.after bv13
    replace hB := hB.trans (bv13.mono hS)
    replace hS := Nat.le_trans hS bv13.size
    clear bv13
    go_upto_region 4 with fail
    go_step
    refine wpList_load_box rfl 40 _ rfl hb1 (by rfl) Try.underlying40 rfl (by rw [HZS1.out]; kernel_rfl) ?_
    simp only [Act.put, List.setIfInBounds_toArray, List.set_cons_zero, List.set_cons_succ]
    refine wpList_load_box rfl 40 _ rfl hbb (by rfl) Try.underlying40 rfl (by rw [HBS.out]; kernel_rfl) ?_
    simp only [Act.put, List.setIfInBounds_toArray, List.set_cons_zero, List.set_cons_succ]
    refine wpList_load_box rfl 40 _ rfl hbc (by rfl) Try.underlying40 rfl (by rw [HCS.out]; kernel_rfl) ?_
    simp only [Act.put, List.setIfInBounds_toArray, List.set_cons_zero, List.set_cons_succ]
    refine wpList_made_call rfl 31 #[.agg X9, .agg LM, .agg LC] (by simp [go_sem]) _ (H3.out _) ?_
    intro v14 bv14
    simp only [Act.put, List.setIfInBounds_toArray, List.set_cons_zero, List.set_cons_succ]
    replace hba := hba.after bv14
    replace hbb := hbb.after bv14
    replace hbc := hbc.after bv14
    replace hb1 := hb1.after bv14
    replace hb0 := hb0.after bv14
    replace hb9 := hb9.after bv14
    replace hb10 := hb10.after bv14
    replace hB := hB.trans (bv14.mono hS)
    replace hS := Nat.le_trans hS bv14.size
    clear bv14
    refine wpList_new rfl 40 rfl #[.int .u8 0, .int .u8 0, .int .u8 0, .int .u8 0, .int .u8 0, .int .u8 0, .int .u8 0, .int .u8 0, .int .u8 0, .int .u8 0, .int .u8 0, .int .u8 0, .int .u8 0, .int .u8 0, .int .u8 0, .int .u8 0, .int .u8 0, .int .u8 0, .int .u8 0, .int .u8 0, .int .u8 0, .int .u8 0, .int .u8 0, .int .u8 0, .int .u8 0, .int .u8 0, .int .u8 0, .int .u8 0, .int .u8 0, .int .u8 0, .int .u8 0, .int .u8 0] (by intro w; simp [go_sem]) ?_
    intro gb11 v15 hb11 lb11 bv15
    simp only [Act.put, List.setIfInBounds_toArray, List.set_cons_zero, List.set_cons_succ]
    have n_ba_b11 := hba.before lb11
    have n_b11_ba := hba.behind lb11
    have n_bb_b11 := hbb.before lb11
    have n_b11_bb := hbb.behind lb11
    have n_bc_b11 := hbc.before lb11
    have n_b11_bc := hbc.behind lb11
    have n_b1_b11 := hb1.before lb11
    have n_b11_b1 := hb1.behind lb11
    have n_b0_b11 := hb0.before lb11
    have n_b11_b0 := hb0.behind lb11
    have n_b9_b11 := hb9.before lb11
    have n_b11_b9 := hb9.behind lb11
    have n_b10_b11 := hb10.before lb11
    have n_b11_b10 := hb10.behind lb11
    replace lb11 := Nat.le_trans hS lb11
    replace hba := hba.after bv15
    replace hbb := hbb.after bv15
    replace hbc := hbc.after bv15
    replace hb1 := hb1.after bv15
    replace hb0 := hb0.after bv15
    replace hb9 := hb9.after bv15
    replace hb10 := hb10.after bv15
    replace hB := hB.trans (bv15.mono hS)
    replace hS := Nat.le_trans hS bv15.size
    clear bv15
    refine wpList_store_box (cells := X3) rfl 40 (.tmp 11) (.tmp 25) rfl hb11 (by rfl) (by rfl) (by rw [HS3.out]; rfl) (by rw [HS3.out]; kernel_rfl) (HS6.out) ?_
    intro v16 hb11_ stv16
    simp only [Act.put]
    replace hba := stv16.box hba n_ba_b11
    replace hbb := stv16.box hbb n_bb_b11
    replace hbc := stv16.box hbc n_bc_b11
    replace hb1 := stv16.box hb1 n_b1_b11
    replace hb0 := stv16.box hb0 n_b0_b11
    replace hb9 := stv16.box hb9 n_b9_b11
    replace hb10 := stv16.box hb10 n_b10_b11
    replace hB := stv16.below w.heap.size w lb11 hB
    replace hS := Nat.le_trans hS (Nat.le_of_eq stv16.size.symm)
    clear hb11 stv16
    have hb11 := hb11_
    clear hb11_
    go_upto_region 5 with fail
    have hKS : Keeps (fun w' => Box w' w.heap.size 40 (LA) ∧ Box w' gb11 40 (X3) ∧ Box w' gb0 40 (X0) ∧ Box w' gb1 40 (X9) ∧ Box w' gb9 40 (X1) ∧ Box w' gb10 40 (X2)) := fun w w' h b => ⟨h.1.after b, h.2.1.after b, h.2.2.1.after b, h.2.2.2.1.after b, h.2.2.2.2.1.after b, h.2.2.2.2.2.after b⟩
    refine wp_region_U (w := v16) (fun w' => Box w' w.heap.size 40 (LA) ∧ Box w' gb11 40 (X3) ∧ Box w' gb0 40 (X0) ∧ Box w' gb1 40 (X9) ∧ Box w' gb9 40 (X1) ∧ Box w' gb10 40 (X2)) rfl (⟨hba.drew, hb11.drew, hb0.drew, hb1.drew, hb9.drew, hb10.drew⟩) ?_
    replace hba := hba.drew
    replace hbb := hbb.drew
    replace hbc := hbc.drew
    replace hb1 := hb1.drew
    replace hb0 := hb0.drew
    replace hb9 := hb9.drew
    replace hb10 := hb10.drew
    replace hb11 := hb11.drew
    replace hB := hB.drew
    replace hS := Nat.le_trans hS (show v16.heap.size ≤ v16.drew.heap.size from Nat.le_refl _)
    refine wpU_val 0 hKS rfl (by kernel_rfl) (by kernel_rfl) (by kernel_rfl) rfl (fun _ _ _ _ h => h) (.agg (LA)) (fun w' h => run_load_box rfl h.1 (by simp [go_sem]) Try.underlying40 rfl (by rw [HAS.out]; kernel_rfl)) ?_
    simp only [Act.put, List.setIfInBounds_toArray, List.set_cons_zero, List.set_cons_succ]
    refine wpU_val 1 hKS rfl (by kernel_rfl) (by kernel_rfl) (by kernel_rfl) rfl (fun _ _ _ _ h => h) (.agg (X3)) (fun w' h => run_load_box rfl h.2.1 (by simp [go_sem]) Try.underlying40 rfl (by rw [HS3.out]; kernel_rfl)) ?_
    simp only [Act.put, List.setIfInBounds_toArray, List.set_cons_zero, List.set_cons_succ]
    refine wpU_val 2 hKS rfl (by kernel_rfl) (by kernel_rfl) (by kernel_rfl) rfl (fun _ _ _ _ h => h) (.agg (X0)) (fun w' h => run_load_box rfl h.2.2.1 (by simp [go_sem]) Try.underlying40 rfl (by rw [HZS0.out]; kernel_rfl)) ?_
    simp only [Act.put, List.setIfInBounds_toArray, List.set_cons_zero, List.set_cons_succ]
    refine wpU_call 3 hKS rfl (by kernel_rfl) (by kernel_rfl) (by kernel_rfl) rfl (fun _ _ _ _ h => h) 31 #[.agg LA, .agg X3, .agg X0] (fun w => by simp [go_sem]) _ (H4.out) ?_
    simp only [Act.put, List.setIfInBounds_toArray, List.set_cons_zero, List.set_cons_succ]
    refine wpU_val 4 hKS rfl (by kernel_rfl) (by kernel_rfl) (by kernel_rfl) rfl (fun _ _ _ _ h => h) (.agg (X9)) (fun w' h => run_load_box rfl h.2.2.2.1 (by simp [go_sem]) Try.underlying40 rfl (by rw [HZS1.out]; kernel_rfl)) ?_
    simp only [Act.put, List.setIfInBounds_toArray, List.set_cons_zero, List.set_cons_succ]
    refine wpU_val 5 hKS rfl (by kernel_rfl) (by kernel_rfl) (by kernel_rfl) rfl (fun _ _ _ _ h => h) (.agg (X1)) (fun w' h => run_load_box rfl h.2.2.2.2.1 (by simp [go_sem]) Try.underlying40 rfl (by rw [HS1.out]; kernel_rfl)) ?_
    simp only [Act.put, List.setIfInBounds_toArray, List.set_cons_zero, List.set_cons_succ]
    refine wpU_val 6 hKS rfl (by kernel_rfl) (by kernel_rfl) (by kernel_rfl) rfl (fun _ _ _ _ h => h) (.agg (X2)) (fun w' h => run_load_box rfl h.2.2.2.2.2 (by simp [go_sem]) Try.underlying40 rfl (by rw [HS2.out]; kernel_rfl)) ?_
    simp only [Act.put, List.setIfInBounds_toArray, List.set_cons_zero, List.set_cons_succ]
    refine wpU_call 7 hKS rfl (by kernel_rfl) (by kernel_rfl) (by kernel_rfl) rfl (fun _ _ _ _ h => h) 31 #[.agg X9, .agg X1, .agg X2] (fun w => by simp [go_sem]) _ (H5.out) ?_
    simp only [Act.put, List.setIfInBounds_toArray, List.set_cons_zero, List.set_cons_succ]
    refine wpU_val 8 hKS rfl (by kernel_rfl) (by kernel_rfl) (by kernel_rfl) rfl (fun _ _ _ _ h => h) (.bool true) (fun w' h => by simp [go_sem, HEQ4.out]) ?_
    simp only [Act.put, List.setIfInBounds_toArray, List.set_cons_zero, List.set_cons_succ]
    refine wpU_val 9 hKS rfl (by kernel_rfl) (by kernel_rfl) (by kernel_rfl) rfl (fun _ _ _ _ h => h) (.bool true) (fun w' h => by simp [go_sem]) ?_
    simp only [Act.put, List.setIfInBounds_toArray, List.set_cons_zero, List.set_cons_succ]
    refine wpU_val 10 hKS rfl (by kernel_rfl) (by kernel_rfl) (by kernel_rfl) rfl (fun _ _ _ _ h => h) (.agg (X9)) (fun w' h => run_load_box rfl h.2.2.2.1 (by simp [go_sem]) Try.underlying40 rfl (by rw [HZS1.out]; kernel_rfl)) ?_
    simp only [Act.put, List.setIfInBounds_toArray, List.set_cons_zero, List.set_cons_succ]
    refine wpU_val 11 hKS rfl (by kernel_rfl) (by kernel_rfl) (by kernel_rfl) rfl (fun _ _ _ _ h => h) (.agg (LA)) (fun w' h => run_load_box rfl h.1 (by simp [go_sem]) Try.underlying40 rfl (by rw [HAS.out]; kernel_rfl)) ?_
    simp only [Act.put, List.setIfInBounds_toArray, List.set_cons_zero, List.set_cons_succ]
    refine wpU_val 12 hKS rfl (by kernel_rfl) (by kernel_rfl) (by kernel_rfl) rfl (fun _ _ _ _ h => h) (.agg (X0)) (fun w' h => run_load_box rfl h.2.2.1 (by simp [go_sem]) Try.underlying40 rfl (by rw [HZS0.out]; kernel_rfl)) ?_
    simp only [Act.put, List.setIfInBounds_toArray, List.set_cons_zero, List.set_cons_succ]
    refine wpU_call 13 hKS rfl (by kernel_rfl) (by kernel_rfl) (by kernel_rfl) rfl (fun _ _ _ _ h => h) 31 #[.agg X9, .agg LA, .agg X0] (fun w => by simp [go_sem]) _ (H6.out) ?_
    simp only [Act.put, List.setIfInBounds_toArray, List.set_cons_zero, List.set_cons_succ]
    refine wpU_val 14 hKS rfl (by kernel_rfl) (by kernel_rfl) (by kernel_rfl) rfl (fun _ _ _ _ h => h) (.slice (some ⟨w.heap.size, 0, none⟩) 32 32) (fun w' h => by simp [go_sem]) ?_
    simp only [Act.put, List.setIfInBounds_toArray, List.set_cons_zero, List.set_cons_succ]
    refine wpU_callS 15 hKS rfl (by kernel_rfl) (by kernel_rfl) (by kernel_rfl) rfl (fun _ _ _ _ h => h) 27 #[.slice (some ⟨w.heap.size, 0, none⟩) 32 32] (fun w => by simp [go_sem]) _ (fun w' h => H7.out _ _ (h.1)) ?_
    simp only [Act.put, List.setIfInBounds_toArray, List.set_cons_zero, List.set_cons_succ]
    refine wpU_val 16 hKS rfl (by kernel_rfl) (by kernel_rfl) (by kernel_rfl) rfl (fun _ _ _ _ h => h) (.bool true) (fun w' h => by simp [go_sem, HEQ5.out]) ?_
    simp only [Act.put, List.setIfInBounds_toArray, List.set_cons_zero, List.set_cons_succ]
    refine wpU_val 17 hKS rfl (by kernel_rfl) (by kernel_rfl) (by kernel_rfl) rfl (fun _ _ _ _ h => h) (.bool true) (fun w' h => by simp [go_sem]) ?_
    simp only [Act.put, List.setIfInBounds_toArray, List.set_cons_zero, List.set_cons_succ]
    refine wpU_val 18 hKS rfl (by kernel_rfl) (by kernel_rfl) (by kernel_rfl) rfl (fun _ _ _ _ h => h) (.bool true) (fun w' h => by simp [go_sem]) ?_
    simp only [Act.put, List.setIfInBounds_toArray, List.set_cons_zero, List.set_cons_succ]
    refine wpU_call 19 hKS rfl (by kernel_rfl) (by kernel_rfl) (by kernel_rfl) rfl (fun _ _ _ _ h => h) 26 #[] (fun w => by simp [go_sem]) _ (HAW.out) ?_
    simp only [Act.put, List.setIfInBounds_toArray, List.set_cons_zero, List.set_cons_succ]
    refine wpU_val 20 hKS rfl (by kernel_rfl) (by kernel_rfl) (by kernel_rfl) rfl (fun _ _ _ _ h => h) (.bool true) (fun w' h => by simp [go_sem]) ?_
    simp only [Act.put, List.setIfInBounds_toArray, List.set_cons_zero, List.set_cons_succ]
    refine wpU_val 21 hKS rfl (by kernel_rfl) (by kernel_rfl) (by kernel_rfl) rfl (fun _ _ _ _ h => h) (.bool true) (fun w' h => by simp [go_sem]) ?_
    simp only [Act.put, List.setIfInBounds_toArray, List.set_cons_zero, List.set_cons_succ]
    refine wpU_done (by kernel_rfl) ?_
    intro v17 bv17 sS
    clear hKS sS
    replace hba := hba.after bv17
    replace hbb := hbb.after bv17
    replace hbc := hbc.after bv17
    replace hb1 := hb1.after bv17
    replace hb0 := hb0.after bv17
    replace hb9 := hb9.after bv17
    replace hb10 := hb10.after bv17
    replace hb11 := hb11.after bv17
    replace hB := hB.trans (bv17.mono hS)
    replace hS := Nat.le_trans hS bv17.size
    clear bv17
    clear n_ba_b9 n_b9_ba n_bb_b9 n_b9_bb n_bc_b9 n_b9_bc n_b1_b9 n_b9_b1 n_b0_b9 n_b9_b0 n_ba_b10 n_b10_ba n_bb_b10 n_b10_bb n_bc_b10 n_b10_bc n_b1_b10 n_b10_b1 n_b0_b10 n_b10_b0 n_b9_b10 n_b10_b9 n_ba_b11 n_b11_ba n_bb_b11 n_b11_bb n_bc_b11 n_b11_bc n_b1_b11 n_b11_b1 n_b0_b11 n_b11_b0 n_b9_b11 n_b11_b9 n_b10_b11 n_b11_b10
    clear hba hbb hbc hb1 hb0 hb9 hb10 hb11
    go_wp2_with fail
    go_ret
    exact ⟨rfl, hB⟩
  · intro v5 bv5 sS
    replace hba := hba.after bv5
    replace hbb := hbb.after bv5
    replace hbc := hbc.after bv5
    replace hb1 := hb1.after bv5
    replace hb0 := hb0.after bv5
    replace hB := hB.trans (bv5.mono hS)
    replace hS := Nat.le_trans hS bv5.size
    clear bv5
    refine wp_alloc_new 40 rfl #[.int .u8 0, .int .u8 0, .int .u8 0, .int .u8 0, .int .u8 0, .int .u8 0, .int .u8 0, .int .u8 0, .int .u8 0, .int .u8 0, .int .u8 0, .int .u8 0, .int .u8 0, .int .u8 0, .int .u8 0, .int .u8 0, .int .u8 0, .int .u8 0, .int .u8 0, .int .u8 0, .int .u8 0, .int .u8 0, .int .u8 0, .int .u8 0, .int .u8 0, .int .u8 0, .int .u8 0, .int .u8 0, .int .u8 0, .int .u8 0, .int .u8 0, .int .u8 0] (by intro w; simp [go_sem]) ?_
    intro gb10 v6 hb10 lb10 bv6
    refine ⟨hKS _ _ sS bv6, ?_⟩
    have n_ba_b10 := hba.before lb10
    have n_b10_ba := hba.behind lb10
    have n_bb_b10 := hbb.before lb10
    have n_b10_bb := hbb.behind lb10
    have n_bc_b10 := hbc.before lb10
    have n_b10_bc := hbc.behind lb10
    have n_b1_b10 := hb1.before lb10
    have n_b10_b1 := hb1.behind lb10
    have n_b0_b10 := hb0.before lb10
    have n_b10_b0 := hb0.behind lb10
    replace lb10 := Nat.le_trans hS lb10
    replace sS := hKS _ _ sS bv6
    simp only [Act.put, List.setIfInBounds_toArray, List.set_cons_zero, List.set_cons_succ]
    replace hba := hba.after bv6
    replace hbb := hbb.after bv6
    replace hbc := hbc.after bv6
    replace hb1 := hb1.after bv6
    replace hb0 := hb0.after bv6
    replace hB := hB.trans (bv6.mono hS)
    replace hS := Nat.le_trans hS bv6.size
    clear bv6
    refine wpU_one 8 rfl (by kernel_rfl) rfl ?_
    intro v7 bv7 sS
    replace hba := hba.after bv7
    replace hbb := hbb.after bv7
    replace hbc := hbc.after bv7
    replace hb1 := hb1.after bv7
    replace hb0 := hb0.after bv7
    replace hb10 := hb10.after bv7
    replace hB := hB.trans (bv7.mono hS)
    replace hS := Nat.le_trans hS bv7.size
    clear bv7
    refine wp_alloc_new 40 rfl #[.int .u8 0, .int .u8 0, .int .u8 0, .int .u8 0, .int .u8 0, .int .u8 0, .int .u8 0, .int .u8 0, .int .u8 0, .int .u8 0, .int .u8 0, .int .u8 0, .int .u8 0, .int .u8 0, .int .u8 0, .int .u8 0, .int .u8 0, .int .u8 0, .int .u8 0, .int .u8 0, .int .u8 0, .int .u8 0, .int .u8 0, .int .u8 0, .int .u8 0, .int .u8 0, .int .u8 0, .int .u8 0, .int .u8 0, .int .u8 0, .int .u8 0, .int .u8 0] (by intro w; simp [go_sem]) ?_
    intro gb9 v8 hb9 lb9 bv8
    refine ⟨hKS _ _ sS bv8, ?_⟩
    have n_ba_b9 := hba.before lb9
    have n_b9_ba := hba.behind lb9
    have n_bb_b9 := hbb.before lb9
    have n_b9_bb := hbb.behind lb9
    have n_bc_b9 := hbc.before lb9
    have n_b9_bc := hbc.behind lb9
    have n_b1_b9 := hb1.before lb9
    have n_b9_b1 := hb1.behind lb9
    have n_b0_b9 := hb0.before lb9
    have n_b9_b0 := hb0.behind lb9
    have n_b10_b9 := hb10.before lb9
    have n_b9_b10 := hb10.behind lb9
    replace lb9 := Nat.le_trans hS lb9
    replace sS := hKS _ _ sS bv8
    simp only [Act.put, List.setIfInBounds_toArray, List.set_cons_zero, List.set_cons_succ]
    replace hba := hba.after bv8
    replace hbb := hbb.after bv8
    replace hbc := hbc.after bv8
    replace hb1 := hb1.after bv8
    replace hb0 := hb0.after bv8
    replace hb10 := hb10.after bv8
    replace hB := hB.trans (bv8.mono hS)
    replace hS := Nat.le_trans hS bv8.size
    clear bv8
    refine wpU_store_box (cells := X1) 10 rfl (by kernel_rfl) rfl 40 (.tmp 9) (.tmp 17) rfl hb9 (by simp [go_sem]) (by simp [go_sem]) (by rw [HS1.out]; rfl) (by rw [HS1.out]; kernel_rfl) (HS4.out) ?_
    intro v9 v10 bv9 sS hb9_ stv10
    refine ⟨⟨stv10.box sS.1 n_ba_b9, stv10.box sS.2.1 n_bb_b9, stv10.box sS.2.2.1 n_bc_b9, stv10.box sS.2.2.2 n_b0_b9⟩, ?_⟩
    simp only [Act.put]
    replace hba := hba.after bv9
    replace hbb := hbb.after bv9
    replace hbc := hbc.after bv9
    replace hb1 := hb1.after bv9
    replace hb0 := hb0.after bv9
    replace hb10 := hb10.after bv9
    replace hb9 := hb9.after bv9
    replace hB := hB.trans (bv9.mono hS)
    replace hS := Nat.le_trans hS bv9.size
    clear bv9
    replace hba := stv10.box hba n_ba_b9
    replace hbb := stv10.box hbb n_bb_b9
    replace hbc := stv10.box hbc n_bc_b9
    replace hb1 := stv10.box hb1 n_b1_b9
    replace hb0 := stv10.box hb0 n_b0_b9
    replace hb10 := stv10.box hb10 n_b10_b9
    replace hB := stv10.below w.heap.size w lb9 hB
    replace hS := Nat.le_trans hS (Nat.le_of_eq stv10.size.symm)
    clear hb9 stv10 sS
    have hb9 := hb9_
    clear hb9_
    refine wpU_store_box (cells := X2) 11 rfl (by kernel_rfl) rfl 40 (.tmp 10) (.tmp 21) rfl hb10 (by simp [go_sem]) (by simp [go_sem]) (by rw [HS2.out]; rfl) (by rw [HS2.out]; kernel_rfl) (HS5.out) ?_
    intro v11 v12 bv11 sS hb10_ stv12
    refine ⟨⟨stv12.box sS.1 n_ba_b10, stv12.box sS.2.1 n_bb_b10, stv12.box sS.2.2.1 n_bc_b10, stv12.box sS.2.2.2 n_b0_b10⟩, ?_⟩
    simp only [Act.put]
    replace hba := hba.after bv11
    replace hbb := hbb.after bv11
    replace hbc := hbc.after bv11
    replace hb1 := hb1.after bv11
    replace hb0 := hb0.after bv11
    replace hb10 := hb10.after bv11
    replace hb9 := hb9.after bv11
    replace hB := hB.trans (bv11.mono hS)
    replace hS := Nat.le_trans hS bv11.size
    clear bv11
    replace hba := stv12.box hba n_ba_b10
    replace hbb := stv12.box hbb n_bb_b10
    replace hbc := stv12.box hbc n_bc_b10
    replace hb1 := stv12.box hb1 n_b1_b10
    replace hb0 := stv12.box hb0 n_b0_b10
    replace hb9 := stv12.box hb9 n_b9_b10
    replace hB := stv12.below w.heap.size w lb10 hB
    replace hS := Nat.le_trans hS (Nat.le_of_eq stv12.size.symm)
    clear hb10 stv12 sS
    have hb10 := hb10_
    clear hb10_
    refine wpU_done (by kernel_rfl) ?_
    intro v13 bv13 sS
    clear hKS sS
    replace hba := hba.after bv13
    replace hbb := hbb.after bv13
    replace hbc := hbc.after bv13
    replace hb1 := hb1.after bv13
    replace hb0 := hb0.after bv13
    replace hb10 := hb10.after bv13
    replace hb9 := hb9.after bv13
    replace hB := hB.trans (bv13.mono hS)
    replace hS := Nat.le_trans hS bv13.size
    clear bv13
    go_upto_region 4 with fail
    go_step
    refine wpList_load_box rfl 40 _ rfl hb1 (by rfl) Try.underlying40 rfl (by rw [HZS1.out]; kernel_rfl) ?_
    simp only [Act.put, List.setIfInBounds_toArray, List.set_cons_zero, List.set_cons_succ]
    refine wpList_load_box rfl 40 _ rfl hbb (by rfl) Try.underlying40 rfl (by rw [HBS.out]; kernel_rfl) ?_
    simp only [Act.put, List.setIfInBounds_toArray, List.set_cons_zero, List.set_cons_succ]
    refine wpList_load_box rfl 40 _ rfl hbc (by rfl) Try.underlying40 rfl (by rw [HCS.out]; kernel_rfl) ?_
    simp only [Act.put, List.setIfInBounds_toArray, List.set_cons_zero, List.set_cons_succ]
    refine wpList_made_call rfl 31 #[.agg X9, .agg LM, .agg LC] (by simp [go_sem]) _ (H3.out _) ?_
    intro v14 bv14
    simp only [Act.put, List.setIfInBounds_toArray, List.set_cons_zero, List.set_cons_succ]
    replace hba := hba.after bv14
    replace hbb := hbb.after bv14
    replace hbc := hbc.after bv14
    replace hb1 := hb1.after bv14
    replace hb0 := hb0.after bv14
    replace hb10 := hb10.after bv14
    replace hb9 := hb9.after bv14
    replace hB := hB.trans (bv14.mono hS)
    replace hS := Nat.le_trans hS bv14.size
    clear bv14
    refine wpList_new rfl 40 rfl #[.int .u8 0, .int .u8 0, .int .u8 0, .int .u8 0, .int .u8 0, .int .u8 0, .int .u8 0, .int .u8 0, .int .u8 0, .int .u8 0, .int .u8 0, .int .u8 0, .int .u8 0, .int .u8 0, .int .u8 0, .int .u8 0, .int .u8 0, .int .u8 0, .int .u8 0, .int .u8 0, .int .u8 0, .int .u8 0, .int .u8 0, .int .u8 0, .int .u8 0, .int .u8 0, .int .u8 0, .int .u8 0, .int .u8 0, .int .u8 0, .int .u8 0, .int .u8 0] (by intro w; simp [go_sem]) ?_
    intro gb11 v15 hb11 lb11 bv15
    simp only [Act.put, List.setIfInBounds_toArray, List.set_cons_zero, List.set_cons_succ]
    have n_ba_b11 := hba.before lb11
    have n_b11_ba := hba.behind lb11
    have n_bb_b11 := hbb.before lb11
    have n_b11_bb := hbb.behind lb11
    have n_bc_b11 := hbc.before lb11
    have n_b11_bc := hbc.behind lb11
    have n_b1_b11 := hb1.before lb11
    have n_b11_b1 := hb1.behind lb11
    have n_b0_b11 := hb0.before lb11
    have n_b11_b0 := hb0.behind lb11
    have n_b10_b11 := hb10.before lb11
    have n_b11_b10 := hb10.behind lb11
    have n_b9_b11 := hb9.before lb11
    have n_b11_b9 := hb9.behind lb11
    replace lb11 := Nat.le_trans hS lb11
    replace hba := hba.after bv15
    replace hbb := hbb.after bv15
    replace hbc := hbc.after bv15
    replace hb1 := hb1.after bv15
    replace hb0 := hb0.after bv15
    replace hb10 := hb10.after bv15
    replace hb9 := hb9.after bv15
    replace hB := hB.trans (bv15.mono hS)
    replace hS := Nat.le_trans hS bv15.size
    clear bv15
    refine wpList_store_box (cells := X3) rfl 40 (.tmp 11) (.tmp 25) rfl hb11 (by rfl) (by rfl) (by rw [HS3.out]; rfl) (by rw [HS3.out]; kernel_rfl) (HS6.out) ?_
    intro v16 hb11_ stv16
    simp only [Act.put]
    replace hba := stv16.box hba n_ba_b11
    replace hbb := stv16.box hbb n_bb_b11
    replace hbc := stv16.box hbc n_bc_b11
    replace hb1 := stv16.box hb1 n_b1_b11
    replace hb0 := stv16.box hb0 n_b0_b11
    replace hb10 := stv16.box hb10 n_b10_b11
    replace hb9 := stv16.box hb9 n_b9_b11
    replace hB := stv16.below w.heap.size w lb11 hB
    replace hS := Nat.le_trans hS (Nat.le_of_eq stv16.size.symm)
    clear hb11 stv16
    have hb11 := hb11_
    clear hb11_
    go_upto_region 5 with fail
    have hKS : Keeps (fun w' => Box w' w.heap.size 40 (LA) ∧ Box w' gb11 40 (X3) ∧ Box w' gb0 40 (X0) ∧ Box w' gb1 40 (X9) ∧ Box w' gb9 40 (X1) ∧ Box w' gb10 40 (X2)) := fun w w' h b => ⟨h.1.after b, h.2.1.after b, h.2.2.1.after b, h.2.2.2.1.after b, h.2.2.2.2.1.after b, h.2.2.2.2.2.after b⟩
    refine wp_region_U (w := v16) (fun w' => Box w' w.heap.size 40 (LA) ∧ Box w' gb11 40 (X3) ∧ Box w' gb0 40 (X0) ∧ Box w' gb1 40 (X9) ∧ Box w' gb9 40 (X1) ∧ Box w' gb10 40 (X2)) rfl (⟨hba.drew, hb11.drew, hb0.drew, hb1.drew, hb9.drew, hb10.drew⟩) ?_
    replace hba := hba.drew
    replace hbb := hbb.drew
    replace hbc := hbc.drew
    replace hb1 := hb1.drew
    replace hb0 := hb0.drew
    replace hb10 := hb10.drew
    replace hb9 := hb9.drew
    replace hb11 := hb11.drew
    replace hB := hB.drew
    replace hS := Nat.le_trans hS (show v16.heap.size ≤ v16.drew.heap.size from Nat.le_refl _)
    refine wpU_val 0 hKS rfl (by kernel_rfl) (by kernel_rfl) (by kernel_rfl) rfl (fun _ _ _ _ h => h) (.agg (LA)) (fun w' h => run_load_box rfl h.1 (by simp [go_sem]) Try.underlying40 rfl (by rw [HAS.out]; kernel_rfl)) ?_
    simp only [Act.put, List.setIfInBounds_toArray, List.set_cons_zero, List.set_cons_succ]
    refine wpU_val 1 hKS rfl (by kernel_rfl) (by kernel_rfl) (by kernel_rfl) rfl (fun _ _ _ _ h => h) (.agg (X3)) (fun w' h => run_load_box rfl h.2.1 (by simp [go_sem]) Try.underlying40 rfl (by rw [HS3.out]; kernel_rfl)) ?_
    simp only [Act.put, List.setIfInBounds_toArray, List.set_cons_zero, List.set_cons_succ]
    refine wpU_val 2 hKS rfl (by kernel_rfl) (by kernel_rfl) (by kernel_rfl) rfl (fun _ _ _ _ h => h) (.agg (X0)) (fun w' h => run_load_box rfl h.2.2.1 (by simp [go_sem]) Try.underlying40 rfl (by rw [HZS0.out]; kernel_rfl)) ?_
    simp only [Act.put, List.setIfInBounds_toArray, List.set_cons_zero, List.set_cons_succ]
    refine wpU_call 3 hKS rfl (by kernel_rfl) (by kernel_rfl) (by kernel_rfl) rfl (fun _ _ _ _ h => h) 31 #[.agg LA, .agg X3, .agg X0] (fun w => by simp [go_sem]) _ (H4.out) ?_
    simp only [Act.put, List.setIfInBounds_toArray, List.set_cons_zero, List.set_cons_succ]
    refine wpU_val 4 hKS rfl (by kernel_rfl) (by kernel_rfl) (by kernel_rfl) rfl (fun _ _ _ _ h => h) (.agg (X9)) (fun w' h => run_load_box rfl h.2.2.2.1 (by simp [go_sem]) Try.underlying40 rfl (by rw [HZS1.out]; kernel_rfl)) ?_
    simp only [Act.put, List.setIfInBounds_toArray, List.set_cons_zero, List.set_cons_succ]
    refine wpU_val 5 hKS rfl (by kernel_rfl) (by kernel_rfl) (by kernel_rfl) rfl (fun _ _ _ _ h => h) (.agg (X1)) (fun w' h => run_load_box rfl h.2.2.2.2.1 (by simp [go_sem]) Try.underlying40 rfl (by rw [HS1.out]; kernel_rfl)) ?_
    simp only [Act.put, List.setIfInBounds_toArray, List.set_cons_zero, List.set_cons_succ]
    refine wpU_val 6 hKS rfl (by kernel_rfl) (by kernel_rfl) (by kernel_rfl) rfl (fun _ _ _ _ h => h) (.agg (X2)) (fun w' h => run_load_box rfl h.2.2.2.2.2 (by simp [go_sem]) Try.underlying40 rfl (by rw [HS2.out]; kernel_rfl)) ?_
    simp only [Act.put, List.setIfInBounds_toArray, List.set_cons_zero, List.set_cons_succ]
    refine wpU_call 7 hKS rfl (by kernel_rfl) (by kernel_rfl) (by kernel_rfl) rfl (fun _ _ _ _ h => h) 31 #[.agg X9, .agg X1, .agg X2] (fun w => by simp [go_sem]) _ (H5.out) ?_
    simp only [Act.put, List.setIfInBounds_toArray, List.set_cons_zero, List.set_cons_succ]
    refine wpU_val 8 hKS rfl (by kernel_rfl) (by kernel_rfl) (by kernel_rfl) rfl (fun _ _ _ _ h => h) (.bool true) (fun w' h => by simp [go_sem, HEQ4.out]) ?_
    simp only [Act.put, List.setIfInBounds_toArray, List.set_cons_zero, List.set_cons_succ]
    refine wpU_val 9 hKS rfl (by kernel_rfl) (by kernel_rfl) (by kernel_rfl) rfl (fun _ _ _ _ h => h) (.bool true) (fun w' h => by simp [go_sem]) ?_
    simp only [Act.put, List.setIfInBounds_toArray, List.set_cons_zero, List.set_cons_succ]
    refine wpU_val 10 hKS rfl (by kernel_rfl) (by kernel_rfl) (by kernel_rfl) rfl (fun _ _ _ _ h => h) (.agg (X9)) (fun w' h => run_load_box rfl h.2.2.2.1 (by simp [go_sem]) Try.underlying40 rfl (by rw [HZS1.out]; kernel_rfl)) ?_
    simp only [Act.put, List.setIfInBounds_toArray, List.set_cons_zero, List.set_cons_succ]
    refine wpU_val 11 hKS rfl (by kernel_rfl) (by kernel_rfl) (by kernel_rfl) rfl (fun _ _ _ _ h => h) (.agg (LA)) (fun w' h => run_load_box rfl h.1 (by simp [go_sem]) Try.underlying40 rfl (by rw [HAS.out]; kernel_rfl)) ?_
    simp only [Act.put, List.setIfInBounds_toArray, List.set_cons_zero, List.set_cons_succ]
    refine wpU_val 12 hKS rfl (by kernel_rfl) (by kernel_rfl) (by kernel_rfl) rfl (fun _ _ _ _ h => h) (.agg (X0)) (fun w' h => run_load_box rfl h.2.2.1 (by simp [go_sem]) Try.underlying40 rfl (by rw [HZS0.out]; kernel_rfl)) ?_
    simp only [Act.put, List.setIfInBounds_toArray, List.set_cons_zero, List.set_cons_succ]
    refine wpU_call 13 hKS rfl (by kernel_rfl) (by kernel_rfl) (by kernel_rfl) rfl (fun _ _ _ _ h => h) 31 #[.agg X9, .agg LA, .agg X0] (fun w => by simp [go_sem]) _ (H6.out) ?_
    simp only [Act.put, List.setIfInBounds_toArray, List.set_cons_zero, List.set_cons_succ]
    refine wpU_val 14 hKS rfl (by kernel_rfl) (by kernel_rfl) (by kernel_rfl) rfl (fun _ _ _ _ h => h) (.slice (some ⟨w.heap.size, 0, none⟩) 32 32) (fun w' h => by simp [go_sem]) ?_
    simp only [Act.put, List.setIfInBounds_toArray, List.set_cons_zero, List.set_cons_succ]
    refine wpU_callS 15 hKS rfl (by kernel_rfl) (by kernel_rfl) (by kernel_rfl) rfl (fun _ _ _ _ h => h) 27 #[.slice (some ⟨w.heap.size, 0, none⟩) 32 32] (fun w => by simp [go_sem]) _ (fun w' h => H7.out _ _ (h.1)) ?_
    simp only [Act.put, List.setIfInBounds_toArray, List.set_cons_zero, List.set_cons_succ]
    refine wpU_val 16 hKS rfl (by kernel_rfl) (by kernel_rfl) (by kernel_rfl) rfl (fun _ _ _ _ h => h) (.bool true) (fun w' h => by simp [go_sem, HEQ5.out]) ?_
    simp only [Act.put, List.setIfInBounds_toArray, List.set_cons_zero, List.set_cons_succ]
    refine wpU_val 17 hKS rfl (by kernel_rfl) (by kernel_rfl) (by kernel_rfl) rfl (fun _ _ _ _ h => h) (.bool true) (fun w' h => by simp [go_sem]) ?_
    simp only [Act.put, List.setIfInBounds_toArray, List.set_cons_zero, List.set_cons_succ]
    refine wpU_val 18 hKS rfl (by kernel_rfl) (by kernel_rfl) (by kernel_rfl) rfl (fun _ _ _ _ h => h) (.bool true) (fun w' h => by simp [go_sem]) ?_
    simp only [Act.put, List.setIfInBounds_toArray, List.set_cons_zero, List.set_cons_succ]
    refine wpU_call 19 hKS rfl (by kernel_rfl) (by kernel_rfl) (by kernel_rfl) rfl (fun _ _ _ _ h => h) 26 #[] (fun w => by simp [go_sem]) _ (HAW.out) ?_
    simp only [Act.put, List.setIfInBounds_toArray, List.set_cons_zero, List.set_cons_succ]
    refine wpU_val 20 hKS rfl (by kernel_rfl) (by kernel_rfl) (by kernel_rfl) rfl (fun _ _ _ _ h => h) (.bool true) (fun w' h => by simp [go_sem]) ?_
    simp only [Act.put, List.setIfInBounds_toArray, List.set_cons_zero, List.set_cons_succ]
    refine wpU_val 21 hKS rfl (by kernel_rfl) (by kernel_rfl) (by kernel_rfl) rfl (fun _ _ _ _ h => h) (.bool true) (fun w' h => by simp [go_sem]) ?_
    simp only [Act.put, List.setIfInBounds_toArray, List.set_cons_zero, List.set_cons_succ]
    refine wpU_done (by kernel_rfl) ?_
    intro v17 bv17 sS
    clear hKS sS
    replace hba := hba.after bv17
    replace hbb := hbb.after bv17
    replace hbc := hbc.after bv17
    replace hb1 := hb1.after bv17
    replace hb0 := hb0.after bv17
    replace hb10 := hb10.after bv17
    replace hb9 := hb9.after bv17
    replace hb11 := hb11.after bv17
    replace hB := hB.trans (bv17.mono hS)
    replace hS := Nat.le_trans hS bv17.size
    clear bv17
    clear n_ba_b10 n_b10_ba n_bb_b10 n_b10_bb n_bc_b10 n_b10_bc n_b1_b10 n_b10_b1 n_b0_b10 n_b10_b0 n_ba_b9 n_b9_ba n_bb_b9 n_b9_bb n_bc_b9 n_b9_bc n_b1_b9 n_b9_b1 n_b0_b9 n_b9_b0 n_b10_b9 n_b9_b10 n_ba_b11 n_b11_ba n_bb_b11 n_b11_bb n_bc_b11 n_b11_bc n_b1_b11 n_b11_b1 n_b0_b11 n_b11_b0 n_b10_b11 n_b11_b10 n_b9_b11 n_b11_b9
    clear hba hbb hbc hb1 hb0 hb10 hb9 hb11
    go_wp2_with fail
    go_ret
    exact ⟨rfl, hB⟩
end Go.Proofs.Ytddgkoheihlbdaa

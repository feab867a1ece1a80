/- scalar: the laws ScalarMuls, ScalarLaws: the walks. -/
import Derived.Test.YtddgkoheihlbdaaScW1
namespace Go.Proofs.Ytddgkoheihlbdaa
open Go.RowKit

theorem sl_arr {w : World} {g : Nat} {T : TypeId} {l : List UInt8} (h : Box w g T (lCells l).toArray) (hl : l.length = 32) : Sl w (some ⟨g, 0, none⟩) 32 32 l := by
  refine ⟨hl.symm, Nat.le_refl _, by unfold maxLen; omega, (fun h => by cases h), .inr ⟨g, 0, rfl, fun i hi => ?_⟩⟩
  rw [Nat.zero_add]
  exact h.cell i (by simp [lCells, hl, hi])

set_option maxRecDepth 100000 in
set_option maxHeartbeats 8000000 in
theorem ScalarMuls_walk (l0 l1 l2 : List UInt8) (w : World) (w0 : l0.length = 32) (w1 : l1.length = 32) (w2 : l2.length = 32) :
    Calls Try.prog 6 #[.agg (lCells l0).toArray, .agg (lCells l1).toArray, .agg (lCells l2).toArray] w fun e w' => e = .returned (.bool true) ∧ Below w.heap.size w w' := by
  have HAS := Lib.hid (show (lCells l0).toArray.size = 32 by simp [lCells, w0])
  have HBS := Lib.hid (show (lCells l1).toArray.size = 32 by simp [lCells, w1])
  have HCS := Lib.hid (show (lCells l2).toArray.size = 32 by simp [lCells, w2])
  have HSA := Lib.hid (fun w g (h : Box w g 40 (lCells l0).toArray) => sl_arr h w0)
  have HSB := Lib.hid (fun w g (h : Box w g 40 (lCells l1).toArray) => sl_arr h w1)
  have HSC := Lib.hid (fun w g (h : Box w g 40 (lCells l2).toArray) => sl_arr h w2)
  have HAW := Lib.hid (fun w : World => awake6_any w)
  have HM1 := Lib.hid (fun w => mulAdd_any l0 l1 l2 w w0 w1 w2)
  have HM2 := Lib.hid (fun w => mulAdd_any l1 l0 l2 w w1 w0 w2)
  rw [Nat.mul_comm (leNat l1)] at HM2
  have HRM := Lib.hid (fun a b c w h h' h'' => refMulAdd_any a b c 32 32 32 l0 l1 l2 w h h' h'')
  have HOS := Lib.hid (bts_size ((leNat l0 * leNat l1 + leNat l2) % LL))
  have HO1 := Lib.hid (bts_one ((leNat l0 * leNat l1 + leNat l2) % LL))
  have HSL := Lib.hid (fun w g (h : Box w g 40 (bts ((leNat l0 * leNat l1 + leNat l2) % LL))) => sl_bts h)
  have HEQ := Lib.hid (fun w => eq_same ((leNat l0 * leNat l1 + leNat l2) % LL) w)
  generalize (leNat l0 * leNat l1 + leNat l2) % LL = N at *
  have HDL := Lib.hid (leBytes_len N 32)
  obtain ⟨d, hd⟩ : ∃ d, d = leBytes N 32 := ⟨_, rfl⟩
  obtain ⟨O, hO⟩ : ∃ O, O = bts N := ⟨_, rfl⟩
  rw [← hd] at HSL HRM HDL
  rw [← hO] at HSL HM1 HM2 HOS HO1 HEQ
  clear hd hO
  obtain ⟨LA, hLA⟩ : ∃ LA, LA = (lCells l0).toArray := ⟨_, rfl⟩
  obtain ⟨LM, hLM⟩ : ∃ LM, LM = (lCells l1).toArray := ⟨_, rfl⟩
  obtain ⟨LC, hLC⟩ : ∃ LC, LC = (lCells l2).toArray := ⟨_, rfl⟩
  rw [← hLA] at HAS HSA HM1 HM2 ⊢
  rw [← hLM] at HBS HSB HM1 HM2 ⊢
  rw [← hLC] at HCS HSC HM1 HM2 ⊢
  clear hLA hLM hLC w0 w1 w2
  go_enter Try.func6, Try.ntmps6
  go_upto_region 1 with fail
  have hba : Box (((w.alloc (.cells LA 40)).alloc (.cells LM 40)).alloc (.cells LC 40)) w.heap.size 40 LA := (((Box.new w 40 LA).alloc (.cells LM 40)).alloc (.cells LC 40))
  have lba : w.heap.size ≤ w.heap.size := by omega
  have hbb : Box (((w.alloc (.cells LA 40)).alloc (.cells LM 40)).alloc (.cells LC 40)) (w.heap.size + 1) 40 LM := by
    have := ((Box.new (w.alloc (.cells LA 40)) 40 LM).alloc (.cells LC 40))
    simp only [World.size_alloc] at this
    exact this
  have lbb : w.heap.size ≤ (w.heap.size + 1) := by omega
  have n_ba_bb : w.heap.size ≠ (w.heap.size + 1) := by omega
  have n_bb_ba : (w.heap.size + 1) ≠ w.heap.size := by omega
  have hbc : Box (((w.alloc (.cells LA 40)).alloc (.cells LM 40)).alloc (.cells LC 40)) (w.heap.size + 2) 40 LC := by
    have := (Box.new ((w.alloc (.cells LA 40)).alloc (.cells LM 40)) 40 LC)
    simp only [World.size_alloc, Nat.add_assoc, Nat.reduceAdd] at this
    exact this
  have lbc : w.heap.size ≤ (w.heap.size + 2) := by omega
  have n_ba_bc : w.heap.size ≠ (w.heap.size + 2) := by omega
  have n_bc_ba : (w.heap.size + 2) ≠ w.heap.size := by omega
  have n_bb_bc : (w.heap.size + 1) ≠ (w.heap.size + 2) := by omega
  have n_bc_bb : (w.heap.size + 2) ≠ (w.heap.size + 1) := by omega
  have hB : Below w.heap.size w (((w.alloc (.cells LA 40)).alloc (.cells LM 40)).alloc (.cells LC 40)) := ((((Below.refl w.heap.size w).alloc (by simp; try omega) (.cells LA 40)).alloc (by simp; try omega) (.cells LM 40)).alloc (by simp; try omega) (.cells LC 40))
  have hS := hB.size
  change Code.wp _ _ _ _ (((w.alloc (.cells LA 40)).alloc (.cells LM 40)).alloc (.cells LC 40))
  generalize (((w.alloc (.cells LA 40)).alloc (.cells LM 40)).alloc (.cells LC 40)) = v0 at *
  go_upto_region 1 with fail
  go_step
  refine wpList_load_box rfl 40 _ rfl hba (by rfl) Try.underlying40 rfl (by rw [HAS.out]; kernel_rfl) ?_
  simp only [Act.put, List.setIfInBounds_toArray, List.set_cons_zero, List.set_cons_succ]
  refine wpList_load_box rfl 40 _ rfl hbb (by rfl) Try.underlying40 rfl (by rw [HBS.out]; kernel_rfl) ?_
  simp only [Act.put, List.setIfInBounds_toArray, List.set_cons_zero, List.set_cons_succ]
  refine wpList_load_box rfl 40 _ rfl hbc (by rfl) Try.underlying40 rfl (by rw [HCS.out]; kernel_rfl) ?_
  simp only [Act.put, List.setIfInBounds_toArray, List.set_cons_zero, List.set_cons_succ]
  refine wpList_made_call rfl 31 #[.agg LA, .agg LM, .agg LC] (by simp [go_sem]) _ (HM1.out _) ?_
  intro v1 bv1
  simp only [Act.put, List.setIfInBounds_toArray, List.set_cons_zero, List.set_cons_succ]
  replace hba := hba.after bv1
  replace hbb := hbb.after bv1
  replace hbc := hbc.after bv1
  replace hB := hB.trans (bv1.mono hS)
  replace hS := Nat.le_trans hS bv1.size
  clear bv1
  refine wpList_new rfl 40 rfl #[.int .u8 0, .int .u8 0, .int .u8 0, .int .u8 0, .int .u8 0, .int .u8 0, .int .u8 0, .int .u8 0, .int .u8 0, .int .u8 0, .int .u8 0, .int .u8 0, .int .u8 0, .int .u8 0, .int .u8 0, .int .u8 0, .int .u8 0, .int .u8 0, .int .u8 0, .int .u8 0, .int .u8 0, .int .u8 0, .int .u8 0, .int .u8 0, .int .u8 0, .int .u8 0, .int .u8 0, .int .u8 0, .int .u8 0, .int .u8 0, .int .u8 0, .int .u8 0] (by intro w; simp [go_sem]) ?_
  intro gbo v2 hbo lbo bv2
  simp only [Act.put, List.setIfInBounds_toArray, List.set_cons_zero, List.set_cons_succ]
  have n_ba_bo := hba.before lbo
  have n_bo_ba := hba.behind lbo
  have n_bb_bo := hbb.before lbo
  have n_bo_bb := hbb.behind lbo
  have n_bc_bo := hbc.before lbo
  have n_bo_bc := hbc.behind lbo
  replace lbo := Nat.le_trans hS lbo
  replace hba := hba.after bv2
  replace hbb := hbb.after bv2
  replace hbc := hbc.after bv2
  replace hB := hB.trans (bv2.mono hS)
  replace hS := Nat.le_trans hS bv2.size
  clear bv2
  refine wpList_store_box (cells := O) rfl 40 (.tmp 7) (.tmp 11) rfl hbo (by rfl) (by rfl) (by rw [HOS.out]; rfl) (by rw [HOS.out]; kernel_rfl) (HO1.out) ?_
  intro v3 hbo_ stv3
  simp only [Act.put]
  replace hba := stv3.box hba n_ba_bo
  replace hbb := stv3.box hbb n_bb_bo
  replace hbc := stv3.box hbc n_bc_bo
  replace hB := stv3.below w.heap.size w lbo hB
  replace hS := Nat.le_trans hS (Nat.le_of_eq stv3.size.symm)
  clear hbo stv3
  have hbo := hbo_
  clear hbo_
  clear n_ba_bb n_bb_ba n_ba_bc n_bc_ba n_bb_bc n_bc_bb n_ba_bo n_bo_ba n_bb_bo n_bo_bb n_bc_bo n_bo_bc
  go_upto_region 2 with fail
  have hKS : Keeps (fun w' : World => Box w' w.heap.size 40 LA ∧ Box w' (w.heap.size + 1) 40 LM ∧ Box w' (w.heap.size + 2) 40 LC ∧ Box w' gbo 40 O) := fun w w' h b => ⟨h.1.after b, h.2.1.after b, h.2.2.1.after b, h.2.2.2.after b⟩
  refine wp_region_U (w := v3) (fun w' : World => Box w' w.heap.size 40 LA ∧ Box w' (w.heap.size + 1) 40 LM ∧ Box w' (w.heap.size + 2) 40 LC ∧ Box w' gbo 40 O) rfl ⟨hba.drew, hbb.drew, hbc.drew, hbo.drew⟩ ?_
  refine wpU_val 0 hKS rfl (by kernel_rfl) (by kernel_rfl) (by kernel_rfl) rfl (fun _ _ _ _ h => h) (.slice (some ⟨gbo, 0, none⟩) 32 32) (fun w' h => by simp [go_sem]) ?_
  simp only [Act.put, List.setIfInBounds_toArray, List.set_cons_zero, List.set_cons_succ]
  refine wpU_val 1 hKS rfl (by kernel_rfl) (by kernel_rfl) (by kernel_rfl) rfl (fun _ _ _ _ h => h) (.string ⟨d.toArray⟩) (fun w' h => by simp [go_sem, conv_sl (HSL.out _ _ h.2.2.2)]) ?_
  simp only [Act.put, List.setIfInBounds_toArray, List.set_cons_zero, List.set_cons_succ]
  refine wpU_val 2 hKS rfl (by kernel_rfl) (by kernel_rfl) (by kernel_rfl) rfl (fun _ _ _ _ h => h) (.slice (some ⟨w.heap.size, 0, none⟩) 32 32) (fun w' h => by simp [go_sem]) ?_
  simp only [Act.put, List.setIfInBounds_toArray, List.set_cons_zero, List.set_cons_succ]
  refine wpU_val 3 hKS rfl (by kernel_rfl) (by kernel_rfl) (by kernel_rfl) rfl (fun _ _ _ _ h => h) (.slice (some ⟨w.heap.size + 1, 0, none⟩) 32 32) (fun w' h => by simp [go_sem]) ?_
  simp only [Act.put, List.setIfInBounds_toArray, List.set_cons_zero, List.set_cons_succ]
  refine wpU_val 4 hKS rfl (by kernel_rfl) (by kernel_rfl) (by kernel_rfl) rfl (fun _ _ _ _ h => h) (.slice (some ⟨w.heap.size + 2, 0, none⟩) 32 32) (fun w' h => by simp [go_sem]) ?_
  simp only [Act.put, List.setIfInBounds_toArray, List.set_cons_zero, List.set_cons_succ]
  refine wpU_one 5 rfl (by kernel_rfl) rfl ?_
  intro x1 b1 sS
  refine wp_callR 32 #[.slice (some ⟨w.heap.size, 0, none⟩) 32 32, .slice (some ⟨w.heap.size + 1, 0, none⟩) 32 32, .slice (some ⟨w.heap.size + 2, 0, none⟩) 32 32] (by simp [go_sem]) _ (HRM.out _ _ _ _ (HSA.out _ _ sS.1) (HSB.out _ _ sS.2.1) (HSC.out _ _ sS.2.2.1)) ?_
  rintro e x2 ⟨a2, c2, rfl, hs2, hb⟩
  refine ⟨_, rfl, hKS _ _ sS hb, ?_⟩
  simp only [Act.put, List.setIfInBounds_toArray, List.set_cons_zero, List.set_cons_succ]
  have HC2 := Lib.hid (fun w' (b : Below x2.heap.size x2 w') => conv_sl (hs2.after b))
  rw [HDL.out] at HC2 ⊢
  refine wpU_oneval 6 rfl (by kernel_rfl) rfl (.string ⟨d.toArray⟩) (fun w1 b1 s1 => by simp [go_sem, HC2.out w1 b1]) ?_
  simp only [Act.put, List.setIfInBounds_toArray, List.set_cons_zero, List.set_cons_succ]
  refine wpU_val 7 hKS rfl (by kernel_rfl) (by kernel_rfl) (by kernel_rfl) rfl (fun _ _ _ _ h => h) (.bool true) (fun w' h => by simp [go_sem]) ?_
  simp only [Act.put, List.setIfInBounds_toArray, List.set_cons_zero, List.set_cons_succ]
  refine wpU_val 8 hKS rfl (by kernel_rfl) (by kernel_rfl) (by kernel_rfl) rfl (fun _ _ _ _ h => h) (.bool true) (fun w' h => by simp [go_sem]) ?_
  simp only [Act.put, List.setIfInBounds_toArray, List.set_cons_zero, List.set_cons_succ]
  refine wpU_val 9 hKS rfl (by kernel_rfl) (by kernel_rfl) (by kernel_rfl) rfl (fun _ _ _ _ h => h) (.agg (LM)) (fun w' h => run_load_box rfl h.2.1 (by simp [go_sem]) Try.underlying40 rfl (by rw [HBS.out]; kernel_rfl)) ?_
  simp only [Act.put, List.setIfInBounds_toArray, List.set_cons_zero, List.set_cons_succ]
  refine wpU_val 10 hKS rfl (by kernel_rfl) (by kernel_rfl) (by kernel_rfl) rfl (fun _ _ _ _ h => h) (.agg (LA)) (fun w' h => run_load_box rfl h.1 (by simp [go_sem]) Try.underlying40 rfl (by rw [HAS.out]; kernel_rfl)) ?_
  simp only [Act.put, List.setIfInBounds_toArray, List.set_cons_zero, List.set_cons_succ]
  refine wpU_val 11 hKS rfl (by kernel_rfl) (by kernel_rfl) (by kernel_rfl) rfl (fun _ _ _ _ h => h) (.agg (LC)) (fun w' h => run_load_box rfl h.2.2.1 (by simp [go_sem]) Try.underlying40 rfl (by rw [HCS.out]; kernel_rfl)) ?_
  simp only [Act.put, List.setIfInBounds_toArray, List.set_cons_zero, List.set_cons_succ]
  refine wpU_callS 12 hKS rfl (by kernel_rfl) (by kernel_rfl) (by kernel_rfl) rfl (fun _ _ _ _ h => h) 31 #[.agg LM, .agg LA, .agg LC] (fun w => by simp [go_sem]) _ (fun w' h => HM2.out _) ?_
  simp only [Act.put, List.setIfInBounds_toArray, List.set_cons_zero, List.set_cons_succ]
  refine wpU_val 13 hKS rfl (by kernel_rfl) (by kernel_rfl) (by kernel_rfl) rfl (fun _ _ _ _ h => h) (.agg (O)) (fun w' h => run_load_box rfl h.2.2.2 (by simp [go_sem]) Try.underlying40 rfl (by rw [HOS.out]; kernel_rfl)) ?_
  simp only [Act.put, List.setIfInBounds_toArray, List.set_cons_zero, List.set_cons_succ]
  refine wpU_val 14 hKS rfl (by kernel_rfl) (by kernel_rfl) (by kernel_rfl) rfl (fun _ _ _ _ h => h) (.bool true) (fun w' h => by simp [go_sem, HEQ.out]) ?_
  simp only [Act.put, List.setIfInBounds_toArray, List.set_cons_zero, List.set_cons_succ]
  refine wpU_val 15 hKS rfl (by kernel_rfl) (by kernel_rfl) (by kernel_rfl) rfl (fun _ _ _ _ h => h) (.bool true) (fun w' h => by simp [go_sem]) ?_
  simp only [Act.put, List.setIfInBounds_toArray, List.set_cons_zero, List.set_cons_succ]
  refine wpU_val 16 hKS rfl (by kernel_rfl) (by kernel_rfl) (by kernel_rfl) rfl (fun _ _ _ _ h => h) (.bool true) (fun w' h => by simp [go_sem]) ?_
  simp only [Act.put, List.setIfInBounds_toArray, List.set_cons_zero, List.set_cons_succ]
  refine wpU_callS 17 hKS rfl (by kernel_rfl) (by kernel_rfl) (by kernel_rfl) rfl (fun _ _ _ _ h => h) 26 #[] (fun w => by simp [go_sem]) _ (fun w' h => HAW.out _) ?_
  simp only [Act.put, List.setIfInBounds_toArray, List.set_cons_zero, List.set_cons_succ]
  refine wpU_val 18 hKS rfl (by kernel_rfl) (by kernel_rfl) (by kernel_rfl) rfl (fun _ _ _ _ h => h) (.bool true) (fun w' h => by simp [go_sem]) ?_
  simp only [Act.put, List.setIfInBounds_toArray, List.set_cons_zero, List.set_cons_succ]
  refine wpU_val 19 hKS rfl (by kernel_rfl) (by kernel_rfl) (by kernel_rfl) rfl (fun _ _ _ _ h => h) (.bool true) (fun w' h => by simp [go_sem]) ?_
  simp only [Act.put, List.setIfInBounds_toArray, List.set_cons_zero, List.set_cons_succ]
  refine wpU_done (by kernel_rfl) ?_
  intro v9 b9 s9
  have hB9 : Below w.heap.size w v9 := ((hB.drew.trans (b1.mono hB.size)).trans (hb.mono (Nat.le_trans hB.size b1.size))).trans (b9.mono (Nat.le_trans hB.size (Nat.le_trans b1.size hb.size)))
  clear s9 sS hs2 HC2 hb b1 b9 hKS hB hS hba hbb hbc hbo
  go_wp2_with fail
  go_ret
  exact ⟨rfl, hB9⟩
end Go.Proofs.Ytddgkoheihlbdaa

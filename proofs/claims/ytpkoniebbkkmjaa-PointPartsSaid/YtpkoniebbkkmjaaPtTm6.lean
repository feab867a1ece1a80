/- PointParts. -/
import Derived.Test.YtpkoniebbkkmjaaPtTm5
import Derived.Test.YtpkoniebbkkmjaaPtOrd
import Derived.Test.YtpkoniebbkkmjaaScLcMg
import Derived.Test.YtpkoniebbkkmjaaSc5Mg
import Derived.Test.YtpkoniebbkkmjaaCellMg
namespace Go.Proofs.Ytpkoniebbkkmjaa
open Go.RowKit
set_option linter.unusedVariables false
set_option linter.unusedSimpArgs false
attribute [local irreducible] fi dN xx rtN rtOk pw fa fs fm yB getOk getX

theorem top_drop (l : List UInt8) (h : l.length = 32) : ∀ k, k ≤ 32 → topB (fun j => (l.getD j 0).toNat) k = leNat (l.drop (32 - k))
  | 0, _ => by rw [List.drop_eq_nil_of_le (by omega)]; rfl
  | k + 1, hk => by
    have ih := top_drop l h k (by omega)
    have e1 : 31 - k < l.length := by omega
    have e2 : 32 - (k + 1) = 31 - k := by omega
    have e3 : 31 - k + 1 = 32 - k := by omega
    rw [e2, List.drop_eq_getElem_cons e1, e3]
    show 256 * topB _ k + (l.getD (31 - k) 0).toNat = l[31 - k].toNat + 256 * leNat (l.drop (32 - k))
    rw [ih, show l.getD (31 - k) 0 = l[31 - k] from by simp [List.getD, e1]]
    omega
theorem top_all (l : List UInt8) (h : l.length = 32) : topB (fun j => (l.getD j 0).toNat) 32 = leNat l := top_drop l h 32 (Nat.le_refl _)
theorem times_l (p : PP) (e : Array Value) (hp : IsPt p e) (l : List UInt8) (h : l.length = 32) (w : World) : Calls Try.prog 22 #[.agg e, .agg (lCells l).toArray] w (RetP (smul (leNat l) p) w) := by
  have := times_is p e _ _ hp hp.ok (bytes_l l h) w
  rwa [top_all l h] at this
theorem reduce_b (a : Option Addr) (bs : List UInt8) (w : World) (hs : Sl w a 32 32 bs) : Calls Try.prog 25 #[.slice a 32 32] w fun e w' => e = .returned (.agg (bts (leNat bs % LL))) ∧ Below w.heap.size w w' := reduce_any a 32 32 bs w hs
theorem ll_lt : LL < 256 ^ 32 := by decide +kernel
theorem ll_ord : LL = ordN := by decide +kernel
theorem ll_pos : 0 < LL := by decide +kernel
theorem rest_lt (n : Nat) : n % LL < 256 ^ 32 := Nat.lt_trans (Nat.mod_lt _ ll_pos) ll_lt
theorem times_n (p : PP) (e : Array Value) (hp : IsPt p e) (n : Nat) (h : n < 256 ^ 32) (w : World) : Calls Try.prog 22 #[.agg e, .agg (bts n)] w (RetP (smul n p) w) := by
  have := times_l p e hp (leBytes n 32) (leBytes_len n 32) w
  rwa [leNat_bytes 32 n h] at this
theorem may_rest (n : Nat) (a : Option Addr) (c : Nat) (w : World) (h : Sl w a 32 c (leBytes (n % LL) 32)) : Calls Try.prog 26 #[.slice a 32 c] w fun e w' => e = .returned (.bool true) ∧ Below w.heap.size w w' := by
  have h1 := refMay_any a 32 c _ w (by omega) h
  have h2 : mayB (leBytes (n % LL) 32) = true := by
    unfold mayB
    rw [leBytes_len, leNat_bytes 32 _ (rest_lt n), decide_eq_true rfl, decide_eq_true (Nat.mod_lt _ ll_pos)]
    rfl
  rwa [h2] at h1
theorem muladd_one (x y : Nat) (hx : x < 256 ^ 32) (hy : y < 256 ^ 32) (w : World) : Calls Try.prog 27 #[.agg (bts 1), .agg (bts x), .agg (bts y)] w fun e w' => e = .returned (.agg (bts ((x + y) % LL))) ∧ Below w.heap.size w w' := by
  have h := mulAdd_any (leBytes 1 32) (leBytes x 32) (leBytes y 32) w (leBytes_len _ _) (leBytes_len _ _) (leBytes_len _ _)
  rw [leNat_bytes 32 1 (by decide +kernel), leNat_bytes 32 x hx, leNat_bytes 32 y hy, Nat.one_mul] at h
  exact h
theorem parts_one (n : Nat) : smul n pbase = smul (n % LL) pbase := by rw [ll_ord]; exact smul_mod n
theorem parts_two (x y : Nat) : padd (smul x pbase) (smul y pbase) = smul ((x + y) % LL) pbase := by rw [← parts_one, smul_add pbase_ok]
theorem build_one (w : World) : (Instr.build 39 #[(0, .int .u8 1)]).run Try.prog w = .ok (.agg (bts 1)) w := by kernel_rfl

set_option maxRecDepth 100000 in
set_option maxHeartbeats 20000000 in
theorem PointParts_walk (l0 l1 : List UInt8) (w : World) (h0 : l0.length = 32) (h1 : l1.length = 32) : Calls Try.prog 8 #[.agg (lCells l0).toArray, .agg (lCells l1).toArray] w fun e w' => e = .returned (.bool true) ∧ Below w.heap.size w w' := by
  have HSA := Lib.hid (show (lCells l0).toArray.size = 32 by simp [lCells, h0])
  have HSB := Lib.hid (show (lCells l1).toArray.size = 32 by simp [lCells, h1])
  have CA := Lib.hid (fun (w' : World) (h : Box w' w.heap.size 39 (lCells l0).toArray) => reduce_b _ l0 w' (cells_sl h h0))
  have CB := Lib.hid (fun (w' : World) (h : Box w' (w.heap.size + 1) 39 (lCells l1).toArray) => reduce_b _ l1 w' (cells_sl h h1))
  have CM := Lib.hid (fun (w' : World) (g : Nat) (h : Box w' g 39 (bts (leNat l0 % LL))) => may_rest (leNat l0) _ 32 w' (bts_sl h))
  have CT := Lib.hid (fun (e : Array Value) (he : IsPt pbase e) (w' : World) => times_l pbase e he l0 h0 w')
  have CX := Lib.hid (fun (e : Array Value) (he : IsPt pbase e) (w' : World) => times_n pbase e he (leNat l0 % LL) (rest_lt _) w')
  have CY := Lib.hid (fun (e : Array Value) (he : IsPt pbase e) (w' : World) => times_n pbase e he (leNat l1 % LL) (rest_lt _) w')
  have CZ := Lib.hid (fun (e : Array Value) (he : IsPt pbase e) (w' : World) => times_n pbase e he ((leNat l0 % LL + leNat l1 % LL) % LL) (rest_lt _) w')
  have CU := Lib.hid (fun (w' : World) => muladd_one (leNat l0 % LL) (leNat l1 % LL) (rest_lt _) (rest_lt _) w')
  have E1 := Lib.hid (parts_one (leNat l0))
  have E2 := Lib.hid (parts_two (leNat l0 % LL) (leNat l1 % LL))
  have HS1 := Lib.hid (bts_size 1)
  have HSX := Lib.hid (bts_size (leNat l0 % LL))
  have HSY := Lib.hid (bts_size (leNat l1 % LL))
  have HO1 := Lib.hid (bts_one 1)
  have HOX := Lib.hid (bts_one (leNat l0 % LL))
  have HOY := Lib.hid (bts_one (leNat l1 % LL))
  have CO := Lib.hid build_one
  generalize bts ((leNat l0 % LL + leNat l1 % LL) % LL) = zA at *
  generalize (leNat l0 % LL + leNat l1 % LL) % LL = z at *
  generalize bts (leNat l0 % LL) = xA at *
  generalize bts (leNat l1 % LL) = yA at *
  generalize bts 1 = oA at *
  generalize leNat l0 % LL = x at *
  generalize leNat l1 % LL = y at *
  generalize leNat l0 = n0 at *
  generalize leNat l1 = n1 at *
  generalize (lCells l0).toArray = nA at *
  generalize (lCells l1).toArray = nB at *
  clear h0 h1
  go_enter Try.func8, Try.ntmps8
  go_upto_region 1 with fail
  have hA : Box ((w.alloc (.cells nA 39)).alloc (.cells nB 39)) w.heap.size 39 nA := ((Box.new w 39 nA).alloc (.cells nB 39))
  have lA : w.heap.size ≤ w.heap.size := by omega
  have hD : Box ((w.alloc (.cells nA 39)).alloc (.cells nB 39)) (w.heap.size + 1) 39 nB := by
    have := (Box.new (w.alloc (.cells nA 39)) 39 nB)
    simp only [World.size_alloc] at this
    exact this
  have lD : w.heap.size ≤ (w.heap.size + 1) := by omega
  have n_A_D : w.heap.size ≠ (w.heap.size + 1) := by omega
  have n_D_A : (w.heap.size + 1) ≠ w.heap.size := by omega
  have hB : Below w.heap.size w ((w.alloc (.cells nA 39)).alloc (.cells nB 39)) := (((Below.refl w.heap.size w).alloc (by simp; try omega) (.cells nA 39)).alloc (by simp; try omega) (.cells nB 39))
  have hS := hB.size
  change Code.wp _ _ _ _ ((w.alloc (.cells nA 39)).alloc (.cells nB 39))
  generalize ((w.alloc (.cells nA 39)).alloc (.cells nB 39)) = v0 at *
  go_step
  refine wpList_enterR rfl 21 #[] (by simp [go_sem]) _ (base_p _) ?_
  rintro e v1 ⟨e, rfl, he, bv1⟩
  refine ⟨_, rfl, ?_⟩
  simp only [Act.put, List.setIfInBounds_toArray, List.set_cons_zero, List.set_cons_succ]
  replace hA := hA.after bv1
  replace hD := hD.after bv1
  replace hB := hB.trans (bv1.mono hS)
  replace hS := Nat.le_trans hS bv1.size
  clear bv1
  have HE := Lib.hid he
  clear he
  refine wpList_new rfl 29 rfl #[.int .u64 0, .int .u64 0, .int .u64 0, .int .u64 0, .int .u64 0, .int .u64 0, .int .u64 0, .int .u64 0, .int .u64 0, .int .u64 0, .int .u64 0, .int .u64 0, .int .u64 0, .int .u64 0, .int .u64 0, .int .u64 0, .int .u64 0, .int .u64 0, .int .u64 0, .int .u64 0] (by intro w; simp [go_sem]) ?_
  intro gG v2 hG lG bv2
  simp only [Act.put, List.setIfInBounds_toArray, List.set_cons_zero, List.set_cons_succ]
  have n_A_G := hA.before lG
  have n_G_A := hA.behind lG
  have n_D_G := hD.before lG
  have n_G_D := hD.behind lG
  replace lG := Nat.le_trans hS lG
  replace hA := hA.after bv2
  replace hD := hD.after bv2
  replace hB := hB.trans (bv2.mono hS)
  replace hS := Nat.le_trans hS bv2.size
  clear bv2
  refine wpList_store_box (cells := e) rfl 29 (.tmp 5) (.tmp 9) rfl hG (by rfl) (by rfl) (by rw [HE.out.size]; rfl) (by rw [HE.out.size]; kernel_rfl) (HE.out.one) ?_
  intro v3 hG_ stv3
  simp only [Act.put]
  replace hA := stv3.box hA n_A_G
  replace hD := stv3.box hD n_D_G
  replace hB := stv3.below w.heap.size w lG hB
  replace hS := Nat.le_trans hS (Nat.le_of_eq stv3.size.symm)
  clear hG stv3
  have hG := hG_
  clear hG_
  go_upto_region 2 with fail
  go_step
  refine wpList_value rfl (.agg oA) (run_build rfl _ (by simp [go_sem]) _ (CO.out _)) ?_
  simp only [Act.put, List.setIfInBounds_toArray, List.set_cons_zero, List.set_cons_succ]
  refine wpList_new rfl 39 rfl (Array.replicate 32 (Value.int .u8 0)) (by intro w; simp [go_sem]; rfl) ?_
  intro gO v4 hO lO bv4
  simp only [Act.put, List.setIfInBounds_toArray, List.set_cons_zero, List.set_cons_succ]
  have n_A_O := hA.before lO
  have n_O_A := hA.behind lO
  have n_D_O := hD.before lO
  have n_O_D := hD.behind lO
  have n_G_O := hG.before lO
  have n_O_G := hG.behind lO
  replace lO := Nat.le_trans hS lO
  replace hA := hA.after bv4
  replace hD := hD.after bv4
  replace hG := hG.after bv4
  replace hB := hB.trans (bv4.mono hS)
  replace hS := Nat.le_trans hS bv4.size
  clear bv4
  refine wpList_store_box (cells := oA) rfl 39 (.tmp 6) (.tmp 10) rfl hO (by rfl) (by rfl) (by rw [HS1.out]; rfl) (by rw [HS1.out]; kernel_rfl) (HO1.out) ?_
  intro v5 hO_ stv5
  simp only [Act.put]
  replace hA := stv5.box hA n_A_O
  replace hD := stv5.box hD n_D_O
  replace hG := stv5.box hG n_G_O
  replace hB := stv5.below w.heap.size w lO hB
  replace hS := Nat.le_trans hS (Nat.le_of_eq stv5.size.symm)
  clear hO stv5
  have hO := hO_
  clear hO_
  go_upto_region 3 with fail
  have hKS : Keeps (fun w' => Box w' w.heap.size 39 (nA) ∧ Box w' (w.heap.size + 1) 39 (nB)) := fun w w' h b => ⟨h.1.after b, h.2.after b⟩
  refine wp_region_U (w := v5) (fun w' => Box w' w.heap.size 39 (nA) ∧ Box w' (w.heap.size + 1) 39 (nB)) rfl (⟨hA.drew, hD.drew⟩) ?_
  replace hA := hA.drew
  replace hD := hD.drew
  replace hG := hG.drew
  replace hO := hO.drew
  replace hB := hB.drew
  replace hS := Nat.le_trans hS (show v5.heap.size ≤ v5.drew.heap.size from Nat.le_refl _)
  refine wpU_val 0 hKS rfl (by kernel_rfl) (by kernel_rfl) (by kernel_rfl) rfl (fun _ _ _ _ h => h) (.slice (some ⟨w.heap.size, 0, none⟩) 32 32) (fun w' h => by simp [go_sem]) ?_
  simp only [Act.put, List.setIfInBounds_toArray, List.set_cons_zero, List.set_cons_succ]
  refine wpU_val 2 hKS rfl (by kernel_rfl) (by kernel_rfl) (by kernel_rfl) rfl (fun _ _ _ _ h => h) (.slice (some ⟨w.heap.size + 1, 0, none⟩) 32 32) (fun w' h => by simp [go_sem]) ?_
  simp only [Act.put, List.setIfInBounds_toArray, List.set_cons_zero, List.set_cons_succ]
  refine wpU_callS 1 hKS rfl (by kernel_rfl) (by kernel_rfl) (by kernel_rfl) rfl (fun _ _ _ _ h => h) 25 #[.slice (some ⟨w.heap.size, 0, none⟩) 32 32] (fun w => by simp [go_sem]) (.agg xA) (fun w' h => CA.out w' h.1) ?_
  simp only [Act.put, List.setIfInBounds_toArray, List.set_cons_zero, List.set_cons_succ]
  refine wpU_callS 3 hKS rfl (by kernel_rfl) (by kernel_rfl) (by kernel_rfl) rfl (fun _ _ _ _ h => h) 25 #[.slice (some ⟨w.heap.size + 1, 0, none⟩) 32 32] (fun w => by simp [go_sem]) (.agg yA) (fun w' h => CB.out w' h.2) ?_
  simp only [Act.put, List.setIfInBounds_toArray, List.set_cons_zero, List.set_cons_succ]
  refine wpU_al2 (T := 39) (cs := (Array.replicate 32 (Value.int .u8 0))) (by intro w; simp [go_sem]; rfl) hKS (i := 4) (j := 5) ⟨⟨_, rfl⟩, rfl, rfl⟩ ⟨⟨_, rfl⟩, rfl, rfl⟩ (by decide) (by intro d h1 h2; cases h1; cases h2) (by kernel_rfl) (by kernel_rfl) (by kernel_rfl) ?_
  intro gX gY v6 hX hY n_X_Y lX lY bv6 sS
  simp only [Act.put, List.setIfInBounds_toArray, List.set_cons_zero, List.set_cons_succ]
  have n_Y_X := Ne.symm n_X_Y
  have n_A_X := hA.before lX
  have n_X_A := hA.behind lX
  have n_A_Y := hA.before lY
  have n_Y_A := hA.behind lY
  have n_D_X := hD.before lX
  have n_X_D := hD.behind lX
  have n_D_Y := hD.before lY
  have n_Y_D := hD.behind lY
  have n_G_X := hG.before lX
  have n_X_G := hG.behind lX
  have n_G_Y := hG.before lY
  have n_Y_G := hG.behind lY
  have n_O_X := hO.before lX
  have n_X_O := hO.behind lX
  have n_O_Y := hO.before lY
  have n_Y_O := hO.behind lY
  replace lX := Nat.le_trans hS lX
  replace lY := Nat.le_trans hS lY
  replace hA := hA.after bv6
  replace hD := hD.after bv6
  replace hG := hG.after bv6
  replace hO := hO.after bv6
  replace hB := hB.trans (bv6.mono hS)
  replace hS := Nat.le_trans hS bv6.size
  clear bv6
  refine wpU_store_box (cells := xA) 6 rfl (by kernel_rfl) rfl 39 (.tmp 7) (.tmp 12) rfl hX (by simp [go_sem]) (by simp [go_sem]) (by rw [HSX.out]; rfl) (by rw [HSX.out]; kernel_rfl) (HOX.out) ?_
  intro v7 v8 bv7 sS hX_ stv8
  refine ⟨⟨stv8.box sS.1 n_A_X, stv8.box sS.2 n_D_X⟩, ?_⟩
  simp only [Act.put]
  replace hA := hA.after bv7
  replace hD := hD.after bv7
  replace hG := hG.after bv7
  replace hO := hO.after bv7
  replace hX := hX.after bv7
  replace hY := hY.after bv7
  replace hB := hB.trans (bv7.mono hS)
  replace hS := Nat.le_trans hS bv7.size
  clear bv7
  replace hA := stv8.box hA n_A_X
  replace hD := stv8.box hD n_D_X
  replace hG := stv8.box hG n_G_X
  replace hO := stv8.box hO n_O_X
  replace hY := stv8.box hY n_Y_X
  replace hB := stv8.below w.heap.size w lX hB
  replace hS := Nat.le_trans hS (Nat.le_of_eq stv8.size.symm)
  clear hX stv8 sS
  have hX := hX_
  clear hX_
  refine wpU_store_box (cells := yA) 7 rfl (by kernel_rfl) rfl 39 (.tmp 8) (.tmp 14) rfl hY (by simp [go_sem]) (by simp [go_sem]) (by rw [HSY.out]; rfl) (by rw [HSY.out]; kernel_rfl) (HOY.out) ?_
  intro v9 v10 bv9 sS hY_ stv10
  refine ⟨⟨stv10.box sS.1 n_A_Y, stv10.box sS.2 n_D_Y⟩, ?_⟩
  simp only [Act.put]
  replace hA := hA.after bv9
  replace hD := hD.after bv9
  replace hG := hG.after bv9
  replace hO := hO.after bv9
  replace hX := hX.after bv9
  replace hY := hY.after bv9
  replace hB := hB.trans (bv9.mono hS)
  replace hS := Nat.le_trans hS bv9.size
  clear bv9
  replace hA := stv10.box hA n_A_Y
  replace hD := stv10.box hD n_D_Y
  replace hG := stv10.box hG n_G_Y
  replace hO := stv10.box hO n_O_Y
  replace hX := stv10.box hX n_X_Y
  replace hB := stv10.below w.heap.size w lY hB
  replace hS := Nat.le_trans hS (Nat.le_of_eq stv10.size.symm)
  clear hY stv10 sS
  have hY := hY_
  clear hY_
  refine wpU_done (by kernel_rfl) ?_
  intro v11 bv11 sS
  clear hKS sS
  replace hA := hA.after bv11
  replace hD := hD.after bv11
  replace hG := hG.after bv11
  replace hO := hO.after bv11
  replace hX := hX.after bv11
  replace hY := hY.after bv11
  replace hB := hB.trans (bv11.mono hS)
  replace hS := Nat.le_trans hS bv11.size
  clear bv11
  go_upto_region 4 with fail
  go_step
  refine wpList_value rfl (.slice (some ⟨gX, 0, none⟩) 32 32) (by simp [go_sem]) ?_
  simp only [Act.put, List.setIfInBounds_toArray, List.set_cons_zero, List.set_cons_succ]
  refine wpList_made_call rfl 26 #[.slice (some ⟨gX, 0, none⟩) 32 32] (by simp [go_sem]) _ (CM.out _ gX hX) ?_
  intro v12 bv12
  simp only [Act.put, List.setIfInBounds_toArray, List.set_cons_zero, List.set_cons_succ]
  replace hA := hA.after bv12
  replace hD := hD.after bv12
  replace hG := hG.after bv12
  replace hO := hO.after bv12
  replace hX := hX.after bv12
  replace hY := hY.after bv12
  replace hB := hB.trans (bv12.mono hS)
  replace hS := Nat.le_trans hS bv12.size
  clear bv12
  refine wpList_value rfl (.bool false) (by simp [go_sem]) ?_
  simp only [Act.put, List.setIfInBounds_toArray, List.set_cons_zero, List.set_cons_succ]
  go_upto_region 6 with fail
  go_upto_region 6 with fail
  have hKS : Keeps (fun w' => Box w' w.heap.size 39 (nA) ∧ Box w' gG 29 (e) ∧ Box w' gO 39 (oA) ∧ Box w' gX 39 (xA) ∧ Box w' gY 39 (yA)) := fun w w' h b => ⟨h.1.after b, h.2.1.after b, h.2.2.1.after b, h.2.2.2.1.after b, h.2.2.2.2.after b⟩
  refine wp_region_U (w := v12) (fun w' => Box w' w.heap.size 39 (nA) ∧ Box w' gG 29 (e) ∧ Box w' gO 39 (oA) ∧ Box w' gX 39 (xA) ∧ Box w' gY 39 (yA)) rfl (⟨hA.drew, hG.drew, hO.drew, hX.drew, hY.drew⟩) ?_
  replace hA := hA.drew
  replace hD := hD.drew
  replace hG := hG.drew
  replace hO := hO.drew
  replace hX := hX.drew
  replace hY := hY.drew
  replace hB := hB.drew
  replace hS := Nat.le_trans hS (show v12.heap.size ≤ v12.drew.heap.size from Nat.le_refl _)
  refine wpU_val 0 hKS rfl (by kernel_rfl) (by kernel_rfl) (by kernel_rfl) rfl (fun _ _ _ _ h => h) (.agg e) (fun w' h => run_load_box rfl h.2.1 (by simp [go_sem]) Try.underlying29 rfl (by rw [HE.out.size]; kernel_rfl)) ?_
  simp only [Act.put, List.setIfInBounds_toArray, List.set_cons_zero, List.set_cons_succ]
  refine wpU_val 1 hKS rfl (by kernel_rfl) (by kernel_rfl) (by kernel_rfl) rfl (fun _ _ _ _ h => h) (.agg nA) (fun w' h => run_load_box rfl h.1 (by simp [go_sem]) Try.underlying39 rfl (by rw [HSA.out]; kernel_rfl)) ?_
  simp only [Act.put, List.setIfInBounds_toArray, List.set_cons_zero, List.set_cons_succ]
  refine wpU_val 3 hKS rfl (by kernel_rfl) (by kernel_rfl) (by kernel_rfl) rfl (fun _ _ _ _ h => h) (.agg e) (fun w' h => run_load_box rfl h.2.1 (by simp [go_sem]) Try.underlying29 rfl (by rw [HE.out.size]; kernel_rfl)) ?_
  simp only [Act.put, List.setIfInBounds_toArray, List.set_cons_zero, List.set_cons_succ]
  refine wpU_val 4 hKS rfl (by kernel_rfl) (by kernel_rfl) (by kernel_rfl) rfl (fun _ _ _ _ h => h) (.agg xA) (fun w' h => run_load_box rfl h.2.2.2.1 (by simp [go_sem]) Try.underlying39 rfl (by rw [HSX.out]; kernel_rfl)) ?_
  simp only [Act.put, List.setIfInBounds_toArray, List.set_cons_zero, List.set_cons_succ]
  refine wpU_one 2 rfl (by kernel_rfl) rfl ?_
  intro v13 bv13 sS
  replace hA := hA.after bv13
  replace hD := hD.after bv13
  replace hG := hG.after bv13
  replace hO := hO.after bv13
  replace hX := hX.after bv13
  replace hY := hY.after bv13
  replace hB := hB.trans (bv13.mono hS)
  replace hS := Nat.le_trans hS bv13.size
  clear bv13
  refine wp_callR 22 #[.agg e, .agg nA] (by simp [go_sem]) _ (CT.out e HE.out _) ?_
  rintro e v14 ⟨p1, rfl, he, bv14⟩
  refine ⟨_, rfl, hKS _ _ sS bv14, ?_⟩
  replace sS := hKS _ _ sS bv14
  simp only [Act.put, List.setIfInBounds_toArray, List.set_cons_zero, List.set_cons_succ]
  replace hA := hA.after bv14
  replace hD := hD.after bv14
  replace hG := hG.after bv14
  replace hO := hO.after bv14
  replace hX := hX.after bv14
  replace hY := hY.after bv14
  replace hB := hB.trans (bv14.mono hS)
  replace hS := Nat.le_trans hS bv14.size
  clear bv14
  have Hp1 := Lib.hid he
  clear he
  rw [E1.out] at Hp1
  refine wpU_one 5 rfl (by kernel_rfl) rfl ?_
  intro v15 bv15 sS
  replace hA := hA.after bv15
  replace hD := hD.after bv15
  replace hG := hG.after bv15
  replace hO := hO.after bv15
  replace hX := hX.after bv15
  replace hY := hY.after bv15
  replace hB := hB.trans (bv15.mono hS)
  replace hS := Nat.le_trans hS bv15.size
  clear bv15
  refine wp_callR 22 #[.agg e, .agg xA] (by simp [go_sem]) _ (CX.out e HE.out _) ?_
  rintro e v16 ⟨p2, rfl, he, bv16⟩
  refine ⟨_, rfl, hKS _ _ sS bv16, ?_⟩
  replace sS := hKS _ _ sS bv16
  simp only [Act.put, List.setIfInBounds_toArray, List.set_cons_zero, List.set_cons_succ]
  replace hA := hA.after bv16
  replace hD := hD.after bv16
  replace hG := hG.after bv16
  replace hO := hO.after bv16
  replace hX := hX.after bv16
  replace hY := hY.after bv16
  replace hB := hB.trans (bv16.mono hS)
  replace hS := Nat.le_trans hS bv16.size
  clear bv16
  have Hp2 := Lib.hid he
  clear he
  refine wpU_call 6 hKS rfl (by kernel_rfl) (by kernel_rfl) (by kernel_rfl) rfl (fun _ _ _ _ h => h) 19 #[.agg p1, .agg p2] (fun w => by simp [go_sem]) (.bool true) (fun w' => same_p Hp1.out Hp2.out w') ?_
  simp only [Act.put, List.setIfInBounds_toArray, List.set_cons_zero, List.set_cons_succ]
  refine wpU_val 7 hKS rfl (by kernel_rfl) (by kernel_rfl) (by kernel_rfl) rfl (fun _ _ _ _ h => h) (.bool true) (fun w' h => by simp [go_sem]) ?_
  simp only [Act.put, List.setIfInBounds_toArray, List.set_cons_zero, List.set_cons_succ]
  refine wpU_val 8 hKS rfl (by kernel_rfl) (by kernel_rfl) (by kernel_rfl) rfl (fun _ _ _ _ h => h) (.agg e) (fun w' h => run_load_box rfl h.2.1 (by simp [go_sem]) Try.underlying29 rfl (by rw [HE.out.size]; kernel_rfl)) ?_
  simp only [Act.put, List.setIfInBounds_toArray, List.set_cons_zero, List.set_cons_succ]
  refine wpU_val 9 hKS rfl (by kernel_rfl) (by kernel_rfl) (by kernel_rfl) rfl (fun _ _ _ _ h => h) (.agg oA) (fun w' h => run_load_box rfl h.2.2.1 (by simp [go_sem]) Try.underlying39 rfl (by rw [HS1.out]; kernel_rfl)) ?_
  simp only [Act.put, List.setIfInBounds_toArray, List.set_cons_zero, List.set_cons_succ]
  refine wpU_val 10 hKS rfl (by kernel_rfl) (by kernel_rfl) (by kernel_rfl) rfl (fun _ _ _ _ h => h) (.agg xA) (fun w' h => run_load_box rfl h.2.2.2.1 (by simp [go_sem]) Try.underlying39 rfl (by rw [HSX.out]; kernel_rfl)) ?_
  simp only [Act.put, List.setIfInBounds_toArray, List.set_cons_zero, List.set_cons_succ]
  refine wpU_val 11 hKS rfl (by kernel_rfl) (by kernel_rfl) (by kernel_rfl) rfl (fun _ _ _ _ h => h) (.agg yA) (fun w' h => run_load_box rfl h.2.2.2.2 (by simp [go_sem]) Try.underlying39 rfl (by rw [HSY.out]; kernel_rfl)) ?_
  simp only [Act.put, List.setIfInBounds_toArray, List.set_cons_zero, List.set_cons_succ]
  refine wpU_val 14 hKS rfl (by kernel_rfl) (by kernel_rfl) (by kernel_rfl) rfl (fun _ _ _ _ h => h) (.agg e) (fun w' h => run_load_box rfl h.2.1 (by simp [go_sem]) Try.underlying29 rfl (by rw [HE.out.size]; kernel_rfl)) ?_
  simp only [Act.put, List.setIfInBounds_toArray, List.set_cons_zero, List.set_cons_succ]
  refine wpU_val 15 hKS rfl (by kernel_rfl) (by kernel_rfl) (by kernel_rfl) rfl (fun _ _ _ _ h => h) (.agg xA) (fun w' h => run_load_box rfl h.2.2.2.1 (by simp [go_sem]) Try.underlying39 rfl (by rw [HSX.out]; kernel_rfl)) ?_
  simp only [Act.put, List.setIfInBounds_toArray, List.set_cons_zero, List.set_cons_succ]
  refine wpU_val 17 hKS rfl (by kernel_rfl) (by kernel_rfl) (by kernel_rfl) rfl (fun _ _ _ _ h => h) (.agg e) (fun w' h => run_load_box rfl h.2.1 (by simp [go_sem]) Try.underlying29 rfl (by rw [HE.out.size]; kernel_rfl)) ?_
  simp only [Act.put, List.setIfInBounds_toArray, List.set_cons_zero, List.set_cons_succ]
  refine wpU_val 18 hKS rfl (by kernel_rfl) (by kernel_rfl) (by kernel_rfl) rfl (fun _ _ _ _ h => h) (.agg yA) (fun w' h => run_load_box rfl h.2.2.2.2 (by simp [go_sem]) Try.underlying39 rfl (by rw [HSY.out]; kernel_rfl)) ?_
  simp only [Act.put, List.setIfInBounds_toArray, List.set_cons_zero, List.set_cons_succ]
  refine wpU_one 12 rfl (by kernel_rfl) rfl ?_
  intro v17 bv17 sS
  replace hA := hA.after bv17
  replace hD := hD.after bv17
  replace hG := hG.after bv17
  replace hO := hO.after bv17
  replace hX := hX.after bv17
  replace hY := hY.after bv17
  replace hB := hB.trans (bv17.mono hS)
  replace hS := Nat.le_trans hS bv17.size
  clear bv17
  refine wp_callR 27 #[.agg oA, .agg xA, .agg yA] (by simp [go_sem]) _ (CU.out _) ?_
  rintro e v18 ⟨rfl, bv18⟩
  refine ⟨_, rfl, hKS _ _ sS bv18, ?_⟩
  replace sS := hKS _ _ sS bv18
  simp only [Act.put, List.setIfInBounds_toArray, List.set_cons_zero, List.set_cons_succ]
  replace hA := hA.after bv18
  replace hD := hD.after bv18
  replace hG := hG.after bv18
  replace hO := hO.after bv18
  replace hX := hX.after bv18
  replace hY := hY.after bv18
  replace hB := hB.trans (bv18.mono hS)
  replace hS := Nat.le_trans hS bv18.size
  clear bv18
  refine wpU_one 13 rfl (by kernel_rfl) rfl ?_
  intro v19 bv19 sS
  replace hA := hA.after bv19
  replace hD := hD.after bv19
  replace hG := hG.after bv19
  replace hO := hO.after bv19
  replace hX := hX.after bv19
  replace hY := hY.after bv19
  replace hB := hB.trans (bv19.mono hS)
  replace hS := Nat.le_trans hS bv19.size
  clear bv19
  refine wp_callR 22 #[.agg e, .agg zA] (by simp [go_sem]) _ (CZ.out e HE.out _) ?_
  rintro e v20 ⟨p3, rfl, he, bv20⟩
  refine ⟨_, rfl, hKS _ _ sS bv20, ?_⟩
  replace sS := hKS _ _ sS bv20
  simp only [Act.put, List.setIfInBounds_toArray, List.set_cons_zero, List.set_cons_succ]
  replace hA := hA.after bv20
  replace hD := hD.after bv20
  replace hG := hG.after bv20
  replace hO := hO.after bv20
  replace hX := hX.after bv20
  replace hY := hY.after bv20
  replace hB := hB.trans (bv20.mono hS)
  replace hS := Nat.le_trans hS bv20.size
  clear bv20
  have Hp3 := Lib.hid he
  clear he
  refine wpU_one 16 rfl (by kernel_rfl) rfl ?_
  intro v21 bv21 sS
  replace hA := hA.after bv21
  replace hD := hD.after bv21
  replace hG := hG.after bv21
  replace hO := hO.after bv21
  replace hX := hX.after bv21
  replace hY := hY.after bv21
  replace hB := hB.trans (bv21.mono hS)
  replace hS := Nat.le_trans hS bv21.size
  clear bv21
  refine wp_callR 22 #[.agg e, .agg xA] (by simp [go_sem]) _ (CX.out e HE.out _) ?_
  rintro e v22 ⟨p4, rfl, he, bv22⟩
  refine ⟨_, rfl, hKS _ _ sS bv22, ?_⟩
  replace sS := hKS _ _ sS bv22
  simp only [Act.put, List.setIfInBounds_toArray, List.set_cons_zero, List.set_cons_succ]
  replace hA := hA.after bv22
  replace hD := hD.after bv22
  replace hG := hG.after bv22
  replace hO := hO.after bv22
  replace hX := hX.after bv22
  replace hY := hY.after bv22
  replace hB := hB.trans (bv22.mono hS)
  replace hS := Nat.le_trans hS bv22.size
  clear bv22
  have Hp4 := Lib.hid he
  clear he
  refine wpU_one 19 rfl (by kernel_rfl) rfl ?_
  intro v23 bv23 sS
  replace hA := hA.after bv23
  replace hD := hD.after bv23
  replace hG := hG.after bv23
  replace hO := hO.after bv23
  replace hX := hX.after bv23
  replace hY := hY.after bv23
  replace hB := hB.trans (bv23.mono hS)
  replace hS := Nat.le_trans hS bv23.size
  clear bv23
  refine wp_callR 22 #[.agg e, .agg yA] (by simp [go_sem]) _ (CY.out e HE.out _) ?_
  rintro e v24 ⟨p5, rfl, he, bv24⟩
  refine ⟨_, rfl, hKS _ _ sS bv24, ?_⟩
  replace sS := hKS _ _ sS bv24
  simp only [Act.put, List.setIfInBounds_toArray, List.set_cons_zero, List.set_cons_succ]
  replace hA := hA.after bv24
  replace hD := hD.after bv24
  replace hG := hG.after bv24
  replace hO := hO.after bv24
  replace hX := hX.after bv24
  replace hY := hY.after bv24
  replace hB := hB.trans (bv24.mono hS)
  replace hS := Nat.le_trans hS bv24.size
  clear bv24
  have Hp5 := Lib.hid he
  clear he
  refine wpU_one 20 rfl (by kernel_rfl) rfl ?_
  intro v25 bv25 sS
  replace hA := hA.after bv25
  replace hD := hD.after bv25
  replace hG := hG.after bv25
  replace hO := hO.after bv25
  replace hX := hX.after bv25
  replace hY := hY.after bv25
  replace hB := hB.trans (bv25.mono hS)
  replace hS := Nat.le_trans hS bv25.size
  clear bv25
  refine wp_callR 15 #[.agg p4, .agg p5] (by simp [go_sem]) _ (add_p Hp4.out Hp5.out _) ?_
  rintro e v26 ⟨p6, rfl, he, bv26⟩
  refine ⟨_, rfl, hKS _ _ sS bv26, ?_⟩
  replace sS := hKS _ _ sS bv26
  simp only [Act.put, List.setIfInBounds_toArray, List.set_cons_zero, List.set_cons_succ]
  replace hA := hA.after bv26
  replace hD := hD.after bv26
  replace hG := hG.after bv26
  replace hO := hO.after bv26
  replace hX := hX.after bv26
  replace hY := hY.after bv26
  replace hB := hB.trans (bv26.mono hS)
  replace hS := Nat.le_trans hS bv26.size
  clear bv26
  have Hp6 := Lib.hid he
  clear he
  rw [E2.out] at Hp6
  refine wpU_call 21 hKS rfl (by kernel_rfl) (by kernel_rfl) (by kernel_rfl) rfl (fun _ _ _ _ h => h) 19 #[.agg p3, .agg p6] (fun w => by simp [go_sem]) (.bool true) (fun w' => same_p Hp3.out Hp6.out w') ?_
  simp only [Act.put, List.setIfInBounds_toArray, List.set_cons_zero, List.set_cons_succ]
  refine wpU_val 22 hKS rfl (by kernel_rfl) (by kernel_rfl) (by kernel_rfl) rfl (fun _ _ _ _ h => h) (.bool true) (fun w' h => by simp [go_sem]) ?_
  simp only [Act.put, List.setIfInBounds_toArray, List.set_cons_zero, List.set_cons_succ]
  refine wpU_val 23 hKS rfl (by kernel_rfl) (by kernel_rfl) (by kernel_rfl) rfl (fun _ _ _ _ h => h) (.bool true) (fun w' h => by simp [go_sem]) ?_
  simp only [Act.put, List.setIfInBounds_toArray, List.set_cons_zero, List.set_cons_succ]
  refine wpU_call 24 hKS rfl (by kernel_rfl) (by kernel_rfl) (by kernel_rfl) rfl (fun _ _ _ _ h => h) 9 #[] (fun w => by simp [go_sem]) (.bool true) (fun w' => awake7_any w') ?_
  simp only [Act.put, List.setIfInBounds_toArray, List.set_cons_zero, List.set_cons_succ]
  refine wpU_val 25 hKS rfl (by kernel_rfl) (by kernel_rfl) (by kernel_rfl) rfl (fun _ _ _ _ h => h) (.bool true) (fun w' h => by simp [go_sem]) ?_
  simp only [Act.put, List.setIfInBounds_toArray, List.set_cons_zero, List.set_cons_succ]
  refine wpU_val 26 hKS rfl (by kernel_rfl) (by kernel_rfl) (by kernel_rfl) rfl (fun _ _ _ _ h => h) (.bool true) (fun w' h => by simp [go_sem]) ?_
  simp only [Act.put, List.setIfInBounds_toArray, List.set_cons_zero, List.set_cons_succ]
  refine wpU_done (by kernel_rfl) ?_
  intro v27 bv27 sS
  clear hKS sS
  replace hA := hA.after bv27
  replace hD := hD.after bv27
  replace hG := hG.after bv27
  replace hO := hO.after bv27
  replace hX := hX.after bv27
  replace hY := hY.after bv27
  replace hB := hB.trans (bv27.mono hS)
  replace hS := Nat.le_trans hS bv27.size
  clear bv27
  clear hA hD hG hO hX hY
  go_wp2_with fail
  go_ret
  exact ⟨rfl, hB⟩

end Go.Proofs.Ytpkoniebbkkmjaa

/- FieldInverts: the walk. -/
import Derived.Test.YtddgkoheihlbdaaFldRefRoot
import Derived.Test.YtddgkoheihlbdaaFldSums
import Derived.Test.YtddgkoheihlbdaaPrime
import Derived.Test.YtddgkoheihlbdaaReg3
namespace Go.Proofs.Ytddgkoheihlbdaa
open Go.RowKit

theorem two_el (l : List UInt8) (h : decide (leNat l < P25) = true) : El (twoX l) (leNat l % P25) := by
  unfold El twoX
  rw [h]
  have h' : leNat l < P25 := by simpa using h
  have h2 := of_lt (leNat l)
  refine ⟨lt_mono h2 (by omega), Nat.mod_lt _ (by unfold P25; omega), ?_⟩
  simp only [cond_true]
  rw [of_val, Nat.mod_eq_of_lt (show leNat l < 57896044618658097711785492504343953926634992332820282019728792003956564819968 by unfold P25 at h'; omega)]

theorem sameLaw_el {x : L5} {u : Nat} (hx : El x u) (w : World) : Calls Try.prog 21 #[.agg (gArr x.at), .agg (fArr (dig u))] w fun e w' => e = .returned (.bool true) ∧ Below w.heap.size w w' := by
  have := sameLaw_any x u w (lt_mono hx.1 (by omega)) (p_lt hx.2.1)
  rw [hx.2.2, beq_self_eq_true] at this
  exact this
theorem odd_el {x : L5} {u : Nat} (hx : El x u) (w : World) : Calls Try.prog 25 #[.agg (gArr x.at)] w fun e w' => e = .returned (.bool (u % 2 == 1)) ∧ Below w.heap.size w w' := by
  have := odd_any x w (lt_mono hx.1 (by omega))
  rwa [hx.2.2] at this

theorem pr_P : Pr P25 := by
  have h := pr_p
  unfold P25
  exact h
theorem inv_gen (p u e : Nat) (hp : Pr p) (hu : u < p) (he : e + 1 = p - 1) : (u * (u ^ e % p) % p == 1) = !(u == 0) := by
  by_cases h : u = 0
  · subst h
    simp
  · have h1 := fermat hp (hp.2 u (by omega) hu)
    rw [Nat.mul_comm, Nat.mod_mul_mod, ← Nat.pow_succ, Nat.succ_eq_add_one, he, h1]
    simp [h]
theorem inv_law (u : Nat) (hu : u < P25) : (u * pw u (P25 - 2) % P25 == 1) = !(u == 0) := by
  have hp : 2 < P25 := by unfold P25; omega
  unfold pw
  exact inv_gen P25 u (P25 - 2) pr_P hu (by omega)
theorem rt1_lt (u : Nat) : rt1 u < P25 := by
  unfold rt1
  cases rt0 u * rt0 u % P25 == u with
  | true => rw [cond_true, rt0_def]; exact pw_lt _ _
  | false => rw [cond_false]; exact Nat.mod_lt _ p_pos
theorem sq_neg (p r : Nat) (h : r ≤ p) : (p - r) * (p - r) % p = r * r % p := by
  obtain ⟨s, rfl⟩ : ∃ s, p = r + s := ⟨p - r, by omega⟩
  rw [Nat.add_sub_cancel_left]
  have e : s * s + r * (r + s) = r * r + s * (r + s) := by
    rw [Nat.mul_add, Nat.mul_add, Nat.mul_comm s r]
    omega
  have := congrArg (· % (r + s)) e
  simpa [Nat.add_mod] using this
theorem root_gen (p r u : Nat) (ok : Bool) (hp : p % 2 = 1) (hl : r < p) (h : ok = true → r * r % p = u) :
    ((bif ok then (bif r % 2 == 1 then p - r else r) else 0) % 2 == 1) = false ∧ (ok = true → (bif ok then (bif r % 2 == 1 then p - r else r) else 0) * (bif ok then (bif r % 2 == 1 then p - r else r) else 0) % p = u) := by
  cases ok with
  | false => exact ⟨rfl, fun h => by cases h⟩
  | true =>
    rw [cond_true]
    have h1 := h rfl
    by_cases ho : r % 2 = 1
    · rw [ho]
      simp only [beq_self_eq_true, cond_true]
      exact ⟨by simp; omega, fun _ => by rw [sq_neg _ _ (Nat.le_of_lt hl)]; exact h1⟩
    · have : r % 2 = 0 := by omega
      rw [this]
      exact ⟨by simp [this], fun _ => h1⟩
attribute [local irreducible] pw rt0 rt1
theorem rtOk_sq (u : Nat) (h : rtOk u = true) : rt1 u * rt1 u % P25 = u := by
  unfold rtOk at h
  exact eq_of_beq h
theorem P25_odd : P25 % 2 = 1 := by unfold P25; omega
theorem inverts_math (u : Nat) (hu : u < P25) : (u * pw u (P25 - 2) % P25 == 1) = !(u == 0) ∧ (rtN u % 2 == 1) = false ∧ (rtOk u = true → rtN u * rtN u % P25 = u) := by
  have h1 := rtOk_sq u
  have hl := rt1_lt u
  refine ⟨inv_law u hu, ?_⟩
  unfold rtN
  exact root_gen P25 (rt1 u) u (rtOk u) P25_odd hl h1

set_option maxRecDepth 100000 in
set_option maxHeartbeats 4000000 in
theorem FieldInverts_walk (l0 : List UInt8) (w : World) (w0 : l0.length = 32) :
    Calls Try.prog 10 #[.agg (lCells l0).toArray] w fun e w' => e = .returned (.bool true) ∧ Below w.heap.size w w' := by
  have HT0 := Lib.hid (fun w : World => two_any l0 w w0)
  have HLS0 := Lib.hid (show (lCells l0).toArray.size = 32 by simp [lCells, w0])
  have he0 := two_el l0
  obtain ⟨L0, hL0⟩ : ∃ L, L = (lCells l0).toArray := ⟨_, rfl⟩
  rw [← hL0] at HT0 HLS0 ⊢
  generalize twoX l0 = x at *
  generalize leNat l0 % P25 = u at *
  generalize decide (leNat l0 < P25) = ok at *
  have HE0 := Lib.hid he0
  clear hL0 he0 w0
  go_enter Try.func10, Try.ntmps10
  go_upto_region 1 with fail
  have hL0 : Box (w.alloc (.cells L0 40)) w.heap.size 40 L0 := (Box.new w 40 L0)
  have hB : Below w.heap.size w (w.alloc (.cells L0 40)) := ((Below.refl w.heap.size w).alloc (by simp; try omega) (.cells L0 40))
  have hS := hB.size
  change Code.wp _ _ _ _ (w.alloc (.cells L0 40))
  generalize (w.alloc (.cells L0 40)) = v0 at *
  go_upto_region 1 with fail
  go_step
  refine wpList_load_box rfl 40 _ rfl hL0 (by rfl) Try.underlying40 rfl (by rw [HLS0.out]; kernel_rfl) ?_
  simp only [Act.put, List.setIfInBounds_toArray, List.set_cons_zero, List.set_cons_succ]
  refine wpList_made_call rfl 36 #[.agg L0] (by simp [go_sem]) _ (HT0.out _) ?_
  intro v1 bv1
  simp only [Act.put, List.setIfInBounds_toArray, List.set_cons_zero, List.set_cons_succ]
  replace hL0 := hL0.after bv1
  replace hB := hB.trans (bv1.mono hS)
  replace hS := Nat.le_trans hS bv1.size
  clear bv1
  refine wpList_value rfl (.tuple #[.agg (gArr x.at), .agg (fArr (dig u)), .bool ok]) (by simp [go_sem]) ?_
  simp only [Act.put, List.setIfInBounds_toArray, List.set_cons_zero, List.set_cons_succ]
  refine wpList_value rfl (.agg (gArr x.at)) (by simp [go_sem]) ?_
  simp only [Act.put, List.setIfInBounds_toArray, List.set_cons_zero, List.set_cons_succ]
  refine wpList_value rfl (.agg (fArr (dig u))) (by simp [go_sem]) ?_
  simp only [Act.put, List.setIfInBounds_toArray, List.set_cons_zero, List.set_cons_succ]
  refine wpList_value rfl (.bool ok) (by simp [go_sem]) ?_
  simp only [Act.put, List.setIfInBounds_toArray, List.set_cons_zero, List.set_cons_succ]
  refine wpList_new rfl 27 rfl #[.int .u64 0, .int .u64 0, .int .u64 0, .int .u64 0, .int .u64 0] (by intro w; simp [go_sem]) ?_
  intro gX v2 hX lX bv2
  simp only [Act.put, List.setIfInBounds_toArray, List.set_cons_zero, List.set_cons_succ]
  have n_L0_X := hL0.before lX
  have n_X_L0 := hL0.behind lX
  replace lX := Nat.le_trans hS lX
  replace hL0 := hL0.after bv2
  replace hB := hB.trans (bv2.mono hS)
  replace hS := Nat.le_trans hS bv2.size
  clear bv2
  refine wpList_new rfl 34 rfl (Array.replicate 16 (Value.int .u64 0)) (by intro w; simp [go_sem]; rfl) ?_
  intro gU v3 hU lU bv3
  simp only [Act.put, List.setIfInBounds_toArray, List.set_cons_zero, List.set_cons_succ]
  have n_L0_U := hL0.before lU
  have n_U_L0 := hL0.behind lU
  have n_X_U := hX.before lU
  have n_U_X := hX.behind lU
  replace lU := Nat.le_trans hS lU
  replace hL0 := hL0.after bv3
  replace hX := hX.after bv3
  replace hB := hB.trans (bv3.mono hS)
  replace hS := Nat.le_trans hS bv3.size
  clear bv3
  refine wpList_store_box (cells := gArr x.at) rfl 27 (.tmp 3) (.tmp 14) rfl hX (by rfl) (by rfl) (by rw [gArr_size]; rfl) (by rw [gArr_size]; kernel_rfl) (gArr_one _) ?_
  intro v4 hX_ stv4
  simp only [Act.put]
  replace hL0 := stv4.box hL0 n_L0_X
  replace hU := stv4.box hU n_U_X
  replace hB := stv4.below w.heap.size w lX hB
  replace hS := Nat.le_trans hS (Nat.le_of_eq stv4.size.symm)
  clear hX stv4
  have hX := hX_
  clear hX_
  refine wpList_store_box (cells := fArr (dig u)) rfl 34 (.tmp 4) (.tmp 15) rfl hU (by rfl) (by rfl) (by rw [fArr_size]; rfl) (by rw [fArr_size]; kernel_rfl) (fArr_one _) ?_
  intro v5 hU_ stv5
  simp only [Act.put]
  replace hL0 := stv5.box hL0 n_L0_U
  replace hX := stv5.box hX n_X_U
  replace hB := stv5.below w.heap.size w lU hB
  replace hS := Nat.le_trans hS (Nat.le_of_eq stv5.size.symm)
  clear hU stv5
  have hU := hU_
  clear hU_
  refine wpList_value rfl (.bool ok) (by simp [go_sem]) ?_
  simp only [Act.put, List.setIfInBounds_toArray, List.set_cons_zero, List.set_cons_succ]
  clear hL0
  cases ok with
  | false =>
    clear hX hU
    go_wp2_with fail
    refine (awakeF_any _).mono ?_
    rintro e w9 ⟨rfl, hb9⟩
    have hB9 := hB.trans (hb9.mono hB.size)
    clear hb9 hB hS
    go_wp2_with fail
    go_ret
    exact ⟨rfl, hB9⟩
  | true =>
    have HX := Lib.hid (HE0.out rfl)
    have HM := Lib.hid (inverts_math u HX.out.2.1)
    have HINV := Lib.hid (fun w : World => inv_any x u w HX.out)
    have HROOT := Lib.hid (fun w : World => root_any x u w HX.out)
    have HRR := Lib.hid (fun w : World => refRoot_any u w HX.out.2.1)
    have HRI := Lib.hid (fun w : World => refInv_any u w HX.out.2.1)
    unfold RetRoot at HROOT
    generalize pw u (P25 - 2) = n at *
    generalize rtN u = rn at *
    generalize rtOk u = c at *
    go_upto_region 4 with fail
    go_step
    refine wpList_load_box rfl 27 _ rfl hX (by rfl) Try.underlying27 rfl (by rw [gArr_size]; kernel_rfl) ?_
    simp only [Act.put, List.setIfInBounds_toArray, List.set_cons_zero, List.set_cons_succ]
    refine wpList_enterR rfl 40 #[.agg (gArr x.at)] (by simp [go_sem]) _ (HINV.out _) ?_
    rintro e v6 ⟨y, rfl, hy, bv6⟩
    refine ⟨_, rfl, ?_⟩
    simp only [Act.put, List.setIfInBounds_toArray, List.set_cons_zero, List.set_cons_succ]
    replace hX := hX.after bv6
    replace hU := hU.after bv6
    replace hB := hB.trans (bv6.mono hS)
    replace hS := Nat.le_trans hS bv6.size
    clear bv6
    have HY := Lib.hid hy
    clear hy
    refine wpList_new rfl 27 rfl #[.int .u64 0, .int .u64 0, .int .u64 0, .int .u64 0, .int .u64 0] (by intro w; simp [go_sem]) ?_
    intro gY v7 hY lY bv7
    simp only [Act.put, List.setIfInBounds_toArray, List.set_cons_zero, List.set_cons_succ]
    have n_X_Y := hX.before lY
    have n_Y_X := hX.behind lY
    have n_U_Y := hU.before lY
    have n_Y_U := hU.behind lY
    replace lY := Nat.le_trans hS lY
    replace hX := hX.after bv7
    replace hU := hU.after bv7
    replace hB := hB.trans (bv7.mono hS)
    replace hS := Nat.le_trans hS bv7.size
    clear bv7
    refine wpList_store_box (cells := gArr y.at) rfl 27 (.tmp 6) (.tmp 21) rfl hY (by rfl) (by rfl) (by rw [gArr_size]; rfl) (by rw [gArr_size]; kernel_rfl) (gArr_one _) ?_
    intro v8 hY_ stv8
    simp only [Act.put]
    replace hX := stv8.box hX n_X_Y
    replace hU := stv8.box hU n_U_Y
    replace hB := stv8.below w.heap.size w lY hB
    replace hS := Nat.le_trans hS (Nat.le_of_eq stv8.size.symm)
    clear hY stv8
    have hY := hY_
    clear hY_
    go_upto_region 5 with fail
    go_step
    refine wpList_load_box rfl 27 _ rfl hX (by rfl) Try.underlying27 rfl (by rw [gArr_size]; kernel_rfl) ?_
    simp only [Act.put, List.setIfInBounds_toArray, List.set_cons_zero, List.set_cons_succ]
    refine wpList_enterR rfl 41 #[.agg (gArr x.at)] (by simp [go_sem]) _ (HROOT.out _) ?_
    rintro e v9 ⟨r, rfl, hr, bv9⟩
    refine ⟨_, rfl, ?_⟩
    simp only [Act.put, List.setIfInBounds_toArray, List.set_cons_zero, List.set_cons_succ]
    replace hX := hX.after bv9
    replace hU := hU.after bv9
    replace hY := hY.after bv9
    replace hB := hB.trans (bv9.mono hS)
    replace hS := Nat.le_trans hS bv9.size
    clear bv9
    have HR := Lib.hid hr
    clear hr
    refine wpList_value rfl (.tuple #[.agg (gArr r.at), .bool c]) (by simp [go_sem]) ?_
    simp only [Act.put, List.setIfInBounds_toArray, List.set_cons_zero, List.set_cons_succ]
    refine wpList_value rfl (.agg (gArr r.at)) (by simp [go_sem]) ?_
    simp only [Act.put, List.setIfInBounds_toArray, List.set_cons_zero, List.set_cons_succ]
    refine wpList_value rfl (.bool c) (by simp [go_sem]) ?_
    simp only [Act.put, List.setIfInBounds_toArray, List.set_cons_zero, List.set_cons_succ]
    refine wpList_new rfl 27 rfl #[.int .u64 0, .int .u64 0, .int .u64 0, .int .u64 0, .int .u64 0] (by intro w; simp [go_sem]) ?_
    intro gR v10 hR lR bv10
    simp only [Act.put, List.setIfInBounds_toArray, List.set_cons_zero, List.set_cons_succ]
    have n_X_R := hX.before lR
    have n_R_X := hX.behind lR
    have n_U_R := hU.before lR
    have n_R_U := hU.behind lR
    have n_Y_R := hY.before lR
    have n_R_Y := hY.behind lR
    replace lR := Nat.le_trans hS lR
    replace hX := hX.after bv10
    replace hU := hU.after bv10
    replace hY := hY.after bv10
    replace hB := hB.trans (bv10.mono hS)
    replace hS := Nat.le_trans hS bv10.size
    clear bv10
    refine wpList_store_box (cells := gArr r.at) rfl 27 (.tmp 7) (.tmp 25) rfl hR (by rfl) (by rfl) (by rw [gArr_size]; rfl) (by rw [gArr_size]; kernel_rfl) (gArr_one _) ?_
    intro v11 hR_ stv11
    simp only [Act.put]
    replace hX := stv11.box hX n_X_R
    replace hU := stv11.box hU n_U_R
    replace hY := stv11.box hY n_Y_R
    replace hB := stv11.below w.heap.size w lR hB
    replace hS := Nat.le_trans hS (Nat.le_of_eq stv11.size.symm)
    clear hR stv11
    have hR := hR_
    clear hR_
    refine wpList_value rfl (.bool c) (by simp [go_sem]) ?_
    simp only [Act.put, List.setIfInBounds_toArray, List.set_cons_zero, List.set_cons_succ]
    go_upto_region 6 with fail
    go_step
    refine wpList_load_box rfl 34 _ rfl hU (by rfl) Try.underlying34 rfl (by rw [fArr_size]; kernel_rfl) ?_
    simp only [Act.put, List.setIfInBounds_toArray, List.set_cons_zero, List.set_cons_succ]
    refine wpList_made_call rfl 42 #[.agg (fArr (dig u))] (by simp [go_sem]) _ (HRR.out _) ?_
    intro v12 bv12
    simp only [Act.put, List.setIfInBounds_toArray, List.set_cons_zero, List.set_cons_succ]
    replace hX := hX.after bv12
    replace hU := hU.after bv12
    replace hY := hY.after bv12
    replace hR := hR.after bv12
    replace hB := hB.trans (bv12.mono hS)
    replace hS := Nat.le_trans hS bv12.size
    clear bv12
    refine wpList_value rfl (.tuple #[.agg (fArr (dig rn)), .bool c]) (by simp [go_sem]) ?_
    simp only [Act.put, List.setIfInBounds_toArray, List.set_cons_zero, List.set_cons_succ]
    refine wpList_value rfl (.agg (fArr (dig rn))) (by simp [go_sem]) ?_
    simp only [Act.put, List.setIfInBounds_toArray, List.set_cons_zero, List.set_cons_succ]
    refine wpList_value rfl (.bool c) (by simp [go_sem]) ?_
    simp only [Act.put, List.setIfInBounds_toArray, List.set_cons_zero, List.set_cons_succ]
    refine wpList_new rfl 34 rfl (Array.replicate 16 (Value.int .u64 0)) (by intro w; simp [go_sem]; rfl) ?_
    intro gV v13 hV lV bv13
    simp only [Act.put, List.setIfInBounds_toArray, List.set_cons_zero, List.set_cons_succ]
    have n_X_V := hX.before lV
    have n_V_X := hX.behind lV
    have n_U_V := hU.before lV
    have n_V_U := hU.behind lV
    have n_Y_V := hY.before lV
    have n_V_Y := hY.behind lV
    have n_R_V := hR.before lV
    have n_V_R := hR.behind lV
    replace lV := Nat.le_trans hS lV
    replace hX := hX.after bv13
    replace hU := hU.after bv13
    replace hY := hY.after bv13
    replace hR := hR.after bv13
    replace hB := hB.trans (bv13.mono hS)
    replace hS := Nat.le_trans hS bv13.size
    clear bv13
    refine wpList_store_box (cells := fArr (dig rn)) rfl 34 (.tmp 9) (.tmp 30) rfl hV (by rfl) (by rfl) (by rw [fArr_size]; rfl) (by rw [fArr_size]; kernel_rfl) (fArr_one _) ?_
    intro v14 hV_ stv14
    simp only [Act.put]
    replace hX := stv14.box hX n_X_V
    replace hU := stv14.box hU n_U_V
    replace hY := stv14.box hY n_Y_V
    replace hR := stv14.box hR n_R_V
    replace hB := stv14.below w.heap.size w lV hB
    replace hS := Nat.le_trans hS (Nat.le_of_eq stv14.size.symm)
    clear hV stv14
    have hV := hV_
    clear hV_
    refine wpList_value rfl (.bool c) (by simp [go_sem]) ?_
    simp only [Act.put, List.setIfInBounds_toArray, List.set_cons_zero, List.set_cons_succ]
    have HS1 := Lib.hid (sameLaw_el HY.out)
    have HS2 := Lib.hid (sameLaw_el HR.out)
    have HOD := Lib.hid (fun w : World => odd_el HR.out w)
    have HOV := Lib.hid HM.out.2.1
    rw [HOV.out] at HOD
    have HMR := Lib.hid (fun w : World => mul_el HR.out HR.out w)
    have HSR := Lib.hid (fun w : World => same_el (el_mul HR.out HR.out) HX.out w)
    have HMY := Lib.hid (fun w : World => mul_el HX.out HY.out w)
    have HSO := Lib.hid (fun w : World => same_el (el_mul HX.out HY.out) el_one w)
    have HSZ := Lib.hid (fun w : World => same_el HX.out el_zero w)
    have HOF := Lib.hid (of_g 1 (by decide))
    rw [HM.out.1] at HSO
    obtain ⟨z, hz⟩ : ∃ z, z = (u == 0) := ⟨_, rfl⟩
    rw [← hz] at HSO HSZ
    clear hz
    cases c with
    | false =>
      go_upto_region 7 with fail
      refine wp_region_made v14.heap.size v14 rfl (by kernel_rfl) (Below.refl _ _) ?_
      refine wpQ_load_box rfl 27 _ rfl hY (by rfl) hY.lt Try.underlying27 rfl (by rw [gArr_size]; kernel_rfl) ?_
      simp only [Act.put, List.setIfInBounds_toArray, List.set_cons_zero, List.set_cons_succ]
      refine wpQ_load_box rfl 34 _ rfl hU (by rfl) hU.lt Try.underlying34 rfl (by rw [fArr_size]; kernel_rfl) ?_
      simp only [Act.put, List.setIfInBounds_toArray, List.set_cons_zero, List.set_cons_succ]
      refine wpQ_call rfl 43 #[.agg (fArr (dig u))] (fun w => by simp [go_sem]) _ (Nat.le_refl _) (HRI.out) ?_
      simp only [Act.put, List.setIfInBounds_toArray, List.set_cons_zero, List.set_cons_succ]
      refine wpQ_call rfl 21 #[.agg (gArr y.at), .agg (fArr (dig n))] (fun w => by simp [go_sem]) _ (Nat.le_refl _) (HS1.out) ?_
      simp only [Act.put, List.setIfInBounds_toArray, List.set_cons_zero, List.set_cons_succ]
      refine wpQ_run rfl (.bool false) (fun w hw => by simp [go_sem]) ?_
      simp only [Act.put, List.setIfInBounds_toArray, List.set_cons_zero, List.set_cons_succ]
      refine wpQ_run rfl (.bool false) (fun w hw => by simp [go_sem]) ?_
      simp only [Act.put, List.setIfInBounds_toArray, List.set_cons_zero, List.set_cons_succ]
      refine wpQ_run rfl (.bool false) (fun w hw => by simp [go_sem]) ?_
      simp only [Act.put, List.setIfInBounds_toArray, List.set_cons_zero, List.set_cons_succ]
      refine wpQ_run rfl (.bool false) (fun w hw => by simp [go_sem]) ?_
      simp only [Act.put, List.setIfInBounds_toArray, List.set_cons_zero, List.set_cons_succ]
      refine wpQ_run rfl (.bool false) (fun w hw => by simp [go_sem]) ?_
      simp only [Act.put, List.setIfInBounds_toArray, List.set_cons_zero, List.set_cons_succ]
      refine wpQ_run rfl (.bool false) (fun w hw => by simp [go_sem]) ?_
      simp only [Act.put, List.setIfInBounds_toArray, List.set_cons_zero, List.set_cons_succ]
      refine wpQ_run rfl (.bool false) (fun w hw => by simp [go_sem]) ?_
      simp only [Act.put, List.setIfInBounds_toArray, List.set_cons_zero, List.set_cons_succ]
      refine wpQ_load_box rfl 27 _ rfl hR (by rfl) hR.lt Try.underlying27 rfl (by rw [gArr_size]; kernel_rfl) ?_
      simp only [Act.put, List.setIfInBounds_toArray, List.set_cons_zero, List.set_cons_succ]
      refine wpQ_load_box rfl 34 _ rfl hV (by rfl) hV.lt Try.underlying34 rfl (by rw [fArr_size]; kernel_rfl) ?_
      simp only [Act.put, List.setIfInBounds_toArray, List.set_cons_zero, List.set_cons_succ]
      refine wpQ_call rfl 21 #[.agg (gArr r.at), .agg (fArr (dig rn))] (fun w => by simp [go_sem]) _ (Nat.le_refl _) (HS2.out) ?_
      simp only [Act.put, List.setIfInBounds_toArray, List.set_cons_zero, List.set_cons_succ]
      refine wpQ_run rfl (.bool false) (fun w hw => by simp [go_sem]) ?_
      simp only [Act.put, List.setIfInBounds_toArray, List.set_cons_zero, List.set_cons_succ]
      refine wpQ_run rfl (.bool false) (fun w hw => by simp [go_sem]) ?_
      simp only [Act.put, List.setIfInBounds_toArray, List.set_cons_zero, List.set_cons_succ]
      refine wpQ_run rfl (.bool false) (fun w hw => by simp [go_sem]) ?_
      simp only [Act.put, List.setIfInBounds_toArray, List.set_cons_zero, List.set_cons_succ]
      refine wpQ_load_box rfl 27 _ rfl hR (by rfl) hR.lt Try.underlying27 rfl (by rw [gArr_size]; kernel_rfl) ?_
      simp only [Act.put, List.setIfInBounds_toArray, List.set_cons_zero, List.set_cons_succ]
      refine wpQ_call rfl 25 #[.agg (gArr r.at)] (fun w => by simp [go_sem]) _ (Nat.le_refl _) (HOD.out) ?_
      simp only [Act.put, List.setIfInBounds_toArray, List.set_cons_zero, List.set_cons_succ]
      refine wpQ_run rfl (.bool false) (fun w hw => by simp [go_sem]) ?_
      simp only [Act.put, List.setIfInBounds_toArray, List.set_cons_zero, List.set_cons_succ]
      refine wpQ_run rfl (.bool false) (fun w hw => by simp [go_sem]) ?_
      simp only [Act.put, List.setIfInBounds_toArray, List.set_cons_zero, List.set_cons_succ]
      refine wpQ_run rfl (.bool false) (fun w hw => by simp [go_sem]) ?_
      simp only [Act.put, List.setIfInBounds_toArray, List.set_cons_zero, List.set_cons_succ]
      refine wpQ_run rfl (.bool false) (fun w hw => by simp [go_sem]) ?_
      simp only [Act.put, List.setIfInBounds_toArray, List.set_cons_zero, List.set_cons_succ]
      refine wpQ_skip rfl ?_
      simp only [Act.put, List.setIfInBounds_toArray, List.set_cons_zero, List.set_cons_succ]
      refine wpQ_skip rfl ?_
      simp only [Act.put, List.setIfInBounds_toArray, List.set_cons_zero, List.set_cons_succ]
      refine wpQ_skip rfl ?_
      simp only [Act.put, List.setIfInBounds_toArray, List.set_cons_zero, List.set_cons_succ]
      refine wpQ_skip rfl ?_
      simp only [Act.put, List.setIfInBounds_toArray, List.set_cons_zero, List.set_cons_succ]
      refine wpQ_skip rfl ?_
      simp only [Act.put, List.setIfInBounds_toArray, List.set_cons_zero, List.set_cons_succ]
      refine wpQ_skip rfl ?_
      simp only [Act.put, List.setIfInBounds_toArray, List.set_cons_zero, List.set_cons_succ]
      refine wpQ_run rfl (.bool false) (fun w hw => by simp [go_sem]) ?_
      simp only [Act.put, List.setIfInBounds_toArray, List.set_cons_zero, List.set_cons_succ]
      refine wpQ_run rfl (.bool false) (fun w hw => by simp [go_sem]) ?_
      simp only [Act.put, List.setIfInBounds_toArray, List.set_cons_zero, List.set_cons_succ]
      intro v15 bv15
      replace hX := hX.after bv15
      replace hU := hU.after bv15
      replace hY := hY.after bv15
      replace hR := hR.after bv15
      replace hV := hV.after bv15
      replace hB := hB.trans (bv15.mono hS)
      replace hS := Nat.le_trans hS bv15.size
      clear bv15
      go_upto_region 9 with fail
      refine wp_region_made v15.heap.size v15 rfl (by kernel_rfl) (Below.refl _ _) ?_
      refine wpQ_load_box rfl 27 _ rfl hX (by rfl) hX.lt Try.underlying27 rfl (by rw [gArr_size]; kernel_rfl) ?_
      simp only [Act.put, List.setIfInBounds_toArray, List.set_cons_zero, List.set_cons_succ]
      refine wpQ_load_box rfl 27 _ rfl hY (by rfl) hY.lt Try.underlying27 rfl (by rw [gArr_size]; kernel_rfl) ?_
      simp only [Act.put, List.setIfInBounds_toArray, List.set_cons_zero, List.set_cons_succ]
      refine wpQ_call rfl 34 #[.agg (gArr x.at), .agg (gArr y.at)] (fun w => by simp [go_sem]) _ (Nat.le_refl _) (HMY.out) ?_
      simp only [Act.put, List.setIfInBounds_toArray, List.set_cons_zero, List.set_cons_succ]
      refine wpQ_call rfl 20 #[.int .u64 1] (fun w => by simp [go_sem]) _ (Nat.le_refl _) (HOF.out) ?_
      simp only [Act.put, List.setIfInBounds_toArray, List.set_cons_zero, List.set_cons_succ]
      refine wpQ_call rfl 23 #[.agg (gArr (x.mul y).at), .agg (gArr (ofL 1).at)] (fun w => by simp [go_sem]) _ (Nat.le_refl _) (HSO.out) ?_
      simp only [Act.put, List.setIfInBounds_toArray, List.set_cons_zero, List.set_cons_succ]
      refine wpQ_load_box rfl 27 _ rfl hX (by rfl) hX.lt Try.underlying27 rfl (by rw [gArr_size]; kernel_rfl) ?_
      simp only [Act.put, List.setIfInBounds_toArray, List.set_cons_zero, List.set_cons_succ]
      refine wpQ_run rfl (.agg (gArr L5.zero.at)) (fun w hw => by simp [go_sem]; rfl) ?_
      simp only [Act.put, List.setIfInBounds_toArray, List.set_cons_zero, List.set_cons_succ]
      refine wpQ_call rfl 23 #[.agg (gArr x.at), .agg (gArr L5.zero.at)] (fun w => by simp [go_sem]) _ (Nat.le_refl _) (HSZ.out) ?_
      simp only [Act.put, List.setIfInBounds_toArray, List.set_cons_zero, List.set_cons_succ]
      refine wpQ_run rfl (.bool (!z)) (fun w hw => by simp [go_sem]) ?_
      simp only [Act.put, List.setIfInBounds_toArray, List.set_cons_zero, List.set_cons_succ]
      refine wpQ_run rfl (.bool true) (fun w hw => by simp [go_sem]) ?_
      simp only [Act.put, List.setIfInBounds_toArray, List.set_cons_zero, List.set_cons_succ]
      refine wpQ_run rfl (.bool true) (fun w hw => by simp [go_sem]) ?_
      simp only [Act.put, List.setIfInBounds_toArray, List.set_cons_zero, List.set_cons_succ]
      refine wpQ_call rfl 18 #[] (fun w => by simp [go_sem]) _ (Nat.le_refl _) (awakeF_any) ?_
      simp only [Act.put, List.setIfInBounds_toArray, List.set_cons_zero, List.set_cons_succ]
      refine wpQ_run rfl (.bool true) (fun w hw => by simp [go_sem]) ?_
      simp only [Act.put, List.setIfInBounds_toArray, List.set_cons_zero, List.set_cons_succ]
      refine wpQ_run rfl (.bool true) (fun w hw => by simp [go_sem]) ?_
      simp only [Act.put, List.setIfInBounds_toArray, List.set_cons_zero, List.set_cons_succ]
      intro v16 bv16
      replace hX := hX.after bv16
      replace hU := hU.after bv16
      replace hY := hY.after bv16
      replace hR := hR.after bv16
      replace hV := hV.after bv16
      replace hB := hB.trans (bv16.mono hS)
      replace hS := Nat.le_trans hS bv16.size
      clear bv16
      clear hX hU hY hR hV
      go_wp2_with fail
      go_ret
      exact ⟨rfl, hB⟩
    | true =>
      rw [HM.out.2.2 rfl, beq_self_eq_true] at HSR
      go_upto_region 7 with fail
      refine wp_region_made v14.heap.size v14 rfl (by kernel_rfl) (Below.refl _ _) ?_
      refine wpQ_load_box rfl 27 _ rfl hY (by rfl) hY.lt Try.underlying27 rfl (by rw [gArr_size]; kernel_rfl) ?_
      simp only [Act.put, List.setIfInBounds_toArray, List.set_cons_zero, List.set_cons_succ]
      refine wpQ_load_box rfl 34 _ rfl hU (by rfl) hU.lt Try.underlying34 rfl (by rw [fArr_size]; kernel_rfl) ?_
      simp only [Act.put, List.setIfInBounds_toArray, List.set_cons_zero, List.set_cons_succ]
      refine wpQ_call rfl 43 #[.agg (fArr (dig u))] (fun w => by simp [go_sem]) _ (Nat.le_refl _) (HRI.out) ?_
      simp only [Act.put, List.setIfInBounds_toArray, List.set_cons_zero, List.set_cons_succ]
      refine wpQ_call rfl 21 #[.agg (gArr y.at), .agg (fArr (dig n))] (fun w => by simp [go_sem]) _ (Nat.le_refl _) (HS1.out) ?_
      simp only [Act.put, List.setIfInBounds_toArray, List.set_cons_zero, List.set_cons_succ]
      refine wpQ_run rfl (.bool false) (fun w hw => by simp [go_sem]) ?_
      simp only [Act.put, List.setIfInBounds_toArray, List.set_cons_zero, List.set_cons_succ]
      refine wpQ_run rfl (.bool false) (fun w hw => by simp [go_sem]) ?_
      simp only [Act.put, List.setIfInBounds_toArray, List.set_cons_zero, List.set_cons_succ]
      refine wpQ_run rfl (.bool true) (fun w hw => by simp [go_sem]) ?_
      simp only [Act.put, List.setIfInBounds_toArray, List.set_cons_zero, List.set_cons_succ]
      refine wpQ_run rfl (.bool true) (fun w hw => by simp [go_sem]) ?_
      simp only [Act.put, List.setIfInBounds_toArray, List.set_cons_zero, List.set_cons_succ]
      refine wpQ_run rfl (.bool false) (fun w hw => by simp [go_sem]) ?_
      simp only [Act.put, List.setIfInBounds_toArray, List.set_cons_zero, List.set_cons_succ]
      refine wpQ_run rfl (.bool false) (fun w hw => by simp [go_sem]) ?_
      simp only [Act.put, List.setIfInBounds_toArray, List.set_cons_zero, List.set_cons_succ]
      refine wpQ_run rfl (.bool false) (fun w hw => by simp [go_sem]) ?_
      simp only [Act.put, List.setIfInBounds_toArray, List.set_cons_zero, List.set_cons_succ]
      refine wpQ_load_box rfl 27 _ rfl hR (by rfl) hR.lt Try.underlying27 rfl (by rw [gArr_size]; kernel_rfl) ?_
      simp only [Act.put, List.setIfInBounds_toArray, List.set_cons_zero, List.set_cons_succ]
      refine wpQ_load_box rfl 34 _ rfl hV (by rfl) hV.lt Try.underlying34 rfl (by rw [fArr_size]; kernel_rfl) ?_
      simp only [Act.put, List.setIfInBounds_toArray, List.set_cons_zero, List.set_cons_succ]
      refine wpQ_call rfl 21 #[.agg (gArr r.at), .agg (fArr (dig rn))] (fun w => by simp [go_sem]) _ (Nat.le_refl _) (HS2.out) ?_
      simp only [Act.put, List.setIfInBounds_toArray, List.set_cons_zero, List.set_cons_succ]
      refine wpQ_run rfl (.bool false) (fun w hw => by simp [go_sem]) ?_
      simp only [Act.put, List.setIfInBounds_toArray, List.set_cons_zero, List.set_cons_succ]
      refine wpQ_run rfl (.bool false) (fun w hw => by simp [go_sem]) ?_
      simp only [Act.put, List.setIfInBounds_toArray, List.set_cons_zero, List.set_cons_succ]
      refine wpQ_run rfl (.bool false) (fun w hw => by simp [go_sem]) ?_
      simp only [Act.put, List.setIfInBounds_toArray, List.set_cons_zero, List.set_cons_succ]
      refine wpQ_load_box rfl 27 _ rfl hR (by rfl) hR.lt Try.underlying27 rfl (by rw [gArr_size]; kernel_rfl) ?_
      simp only [Act.put, List.setIfInBounds_toArray, List.set_cons_zero, List.set_cons_succ]
      refine wpQ_call rfl 25 #[.agg (gArr r.at)] (fun w => by simp [go_sem]) _ (Nat.le_refl _) (HOD.out) ?_
      simp only [Act.put, List.setIfInBounds_toArray, List.set_cons_zero, List.set_cons_succ]
      refine wpQ_run rfl (.bool false) (fun w hw => by simp [go_sem]) ?_
      simp only [Act.put, List.setIfInBounds_toArray, List.set_cons_zero, List.set_cons_succ]
      refine wpQ_run rfl (.bool false) (fun w hw => by simp [go_sem]) ?_
      simp only [Act.put, List.setIfInBounds_toArray, List.set_cons_zero, List.set_cons_succ]
      refine wpQ_run rfl (.bool true) (fun w hw => by simp [go_sem]) ?_
      simp only [Act.put, List.setIfInBounds_toArray, List.set_cons_zero, List.set_cons_succ]
      refine wpQ_run rfl (.bool true) (fun w hw => by simp [go_sem]) ?_
      simp only [Act.put, List.setIfInBounds_toArray, List.set_cons_zero, List.set_cons_succ]
      refine wpQ_load_box rfl 27 _ rfl hR (by rfl) hR.lt Try.underlying27 rfl (by rw [gArr_size]; kernel_rfl) ?_
      simp only [Act.put, List.setIfInBounds_toArray, List.set_cons_zero, List.set_cons_succ]
      refine wpQ_load_box rfl 27 _ rfl hR (by rfl) hR.lt Try.underlying27 rfl (by rw [gArr_size]; kernel_rfl) ?_
      simp only [Act.put, List.setIfInBounds_toArray, List.set_cons_zero, List.set_cons_succ]
      refine wpQ_call rfl 34 #[.agg (gArr r.at), .agg (gArr r.at)] (fun w => by simp [go_sem]) _ (Nat.le_refl _) (HMR.out) ?_
      simp only [Act.put, List.setIfInBounds_toArray, List.set_cons_zero, List.set_cons_succ]
      refine wpQ_load_box rfl 27 _ rfl hX (by rfl) hX.lt Try.underlying27 rfl (by rw [gArr_size]; kernel_rfl) ?_
      simp only [Act.put, List.setIfInBounds_toArray, List.set_cons_zero, List.set_cons_succ]
      refine wpQ_call rfl 23 #[.agg (gArr (r.mul r).at), .agg (gArr x.at)] (fun w => by simp [go_sem]) _ (Nat.le_refl _) (HSR.out) ?_
      simp only [Act.put, List.setIfInBounds_toArray, List.set_cons_zero, List.set_cons_succ]
      refine wpQ_run rfl (.bool false) (fun w hw => by simp [go_sem]) ?_
      simp only [Act.put, List.setIfInBounds_toArray, List.set_cons_zero, List.set_cons_succ]
      refine wpQ_run rfl (.bool false) (fun w hw => by simp [go_sem]) ?_
      simp only [Act.put, List.setIfInBounds_toArray, List.set_cons_zero, List.set_cons_succ]
      refine wpQ_run rfl (.bool false) (fun w hw => by simp [go_sem]) ?_
      simp only [Act.put, List.setIfInBounds_toArray, List.set_cons_zero, List.set_cons_succ]
      intro v15 bv15
      replace hX := hX.after bv15
      replace hU := hU.after bv15
      replace hY := hY.after bv15
      replace hR := hR.after bv15
      replace hV := hV.after bv15
      replace hB := hB.trans (bv15.mono hS)
      replace hS := Nat.le_trans hS bv15.size
      clear bv15
      go_upto_region 9 with fail
      refine wp_region_made v15.heap.size v15 rfl (by kernel_rfl) (Below.refl _ _) ?_
      refine wpQ_load_box rfl 27 _ rfl hX (by rfl) hX.lt Try.underlying27 rfl (by rw [gArr_size]; kernel_rfl) ?_
      simp only [Act.put, List.setIfInBounds_toArray, List.set_cons_zero, List.set_cons_succ]
      refine wpQ_load_box rfl 27 _ rfl hY (by rfl) hY.lt Try.underlying27 rfl (by rw [gArr_size]; kernel_rfl) ?_
      simp only [Act.put, List.setIfInBounds_toArray, List.set_cons_zero, List.set_cons_succ]
      refine wpQ_call rfl 34 #[.agg (gArr x.at), .agg (gArr y.at)] (fun w => by simp [go_sem]) _ (Nat.le_refl _) (HMY.out) ?_
      simp only [Act.put, List.setIfInBounds_toArray, List.set_cons_zero, List.set_cons_succ]
      refine wpQ_call rfl 20 #[.int .u64 1] (fun w => by simp [go_sem]) _ (Nat.le_refl _) (HOF.out) ?_
      simp only [Act.put, List.setIfInBounds_toArray, List.set_cons_zero, List.set_cons_succ]
      refine wpQ_call rfl 23 #[.agg (gArr (x.mul y).at), .agg (gArr (ofL 1).at)] (fun w => by simp [go_sem]) _ (Nat.le_refl _) (HSO.out) ?_
      simp only [Act.put, List.setIfInBounds_toArray, List.set_cons_zero, List.set_cons_succ]
      refine wpQ_load_box rfl 27 _ rfl hX (by rfl) hX.lt Try.underlying27 rfl (by rw [gArr_size]; kernel_rfl) ?_
      simp only [Act.put, List.setIfInBounds_toArray, List.set_cons_zero, List.set_cons_succ]
      refine wpQ_run rfl (.agg (gArr L5.zero.at)) (fun w hw => by simp [go_sem]; rfl) ?_
      simp only [Act.put, List.setIfInBounds_toArray, List.set_cons_zero, List.set_cons_succ]
      refine wpQ_call rfl 23 #[.agg (gArr x.at), .agg (gArr L5.zero.at)] (fun w => by simp [go_sem]) _ (Nat.le_refl _) (HSZ.out) ?_
      simp only [Act.put, List.setIfInBounds_toArray, List.set_cons_zero, List.set_cons_succ]
      refine wpQ_run rfl (.bool (!z)) (fun w hw => by simp [go_sem]) ?_
      simp only [Act.put, List.setIfInBounds_toArray, List.set_cons_zero, List.set_cons_succ]
      refine wpQ_run rfl (.bool true) (fun w hw => by simp [go_sem]) ?_
      simp only [Act.put, List.setIfInBounds_toArray, List.set_cons_zero, List.set_cons_succ]
      refine wpQ_run rfl (.bool true) (fun w hw => by simp [go_sem]) ?_
      simp only [Act.put, List.setIfInBounds_toArray, List.set_cons_zero, List.set_cons_succ]
      refine wpQ_call rfl 18 #[] (fun w => by simp [go_sem]) _ (Nat.le_refl _) (awakeF_any) ?_
      simp only [Act.put, List.setIfInBounds_toArray, List.set_cons_zero, List.set_cons_succ]
      refine wpQ_run rfl (.bool true) (fun w hw => by simp [go_sem]) ?_
      simp only [Act.put, List.setIfInBounds_toArray, List.set_cons_zero, List.set_cons_succ]
      refine wpQ_run rfl (.bool true) (fun w hw => by simp [go_sem]) ?_
      simp only [Act.put, List.setIfInBounds_toArray, List.set_cons_zero, List.set_cons_succ]
      intro v16 bv16
      replace hX := hX.after bv16
      replace hU := hU.after bv16
      replace hY := hY.after bv16
      replace hR := hR.after bv16
      replace hV := hV.after bv16
      replace hB := hB.trans (bv16.mono hS)
      replace hS := Nat.le_trans hS bv16.size
      clear bv16
      clear hX hU hY hR hV
      go_wp2_with fail
      go_ret
      exact ⟨rfl, hB⟩
end Go.Proofs.Ytddgkoheihlbdaa

/- Points: the program's Times. -/
import Derived.Test.YtpkoniebbkkmjaaPtTm
namespace Go.Proofs.Ytpkoniebbkkmjaa
open Go.RowKit
set_option linter.unusedVariables false
set_option linter.unusedSimpArgs false
attribute [local irreducible] fi dN xx rtN rtOk pw fa fs fm yB smul padd topN topB

set_option maxRecDepth 100000 in
set_option maxHeartbeats 20000000 in
theorem times_is (p : PP) (e nA : Array Value) (f : Nat → Nat) (hp : IsPt p e) (hok : p.ok) (hn : BytesOf nA f) (w : World) : Calls Try.prog 22 #[.agg e, .agg nA] w (RetP (smul (topB f 32) p) w) := by
  have HP := Lib.hid hp
  have HSP := Lib.hid hp.size
  have HONE := Lib.hid hp.one
  have HSN := Lib.hid hn.size
  have HGET := Lib.hid hn.get
  have HFL := Lib.hid hn.lt
  clear hp hn
  go_enter Try.func22, Try.ntmps22
  go_upto_region 1 with fail
  have hP : Box (((w.alloc (.cells e 29)).alloc (.cells nA 39)).alloc (.cells #[.int .u64 0, .int .u64 0, .int .u64 0, .int .u64 0, .int .u64 0, .int .u64 0, .int .u64 0, .int .u64 0, .int .u64 0, .int .u64 0, .int .u64 0, .int .u64 0, .int .u64 0, .int .u64 0, .int .u64 0, .int .u64 0, .int .u64 0, .int .u64 0, .int .u64 0, .int .u64 0] 29)) w.heap.size 29 e := (((Box.new w 29 e).alloc (.cells nA 39)).alloc (.cells #[.int .u64 0, .int .u64 0, .int .u64 0, .int .u64 0, .int .u64 0, .int .u64 0, .int .u64 0, .int .u64 0, .int .u64 0, .int .u64 0, .int .u64 0, .int .u64 0, .int .u64 0, .int .u64 0, .int .u64 0, .int .u64 0, .int .u64 0, .int .u64 0, .int .u64 0, .int .u64 0] 29))
  have lP : w.heap.size ≤ w.heap.size := by omega
  have hN : Box (((w.alloc (.cells e 29)).alloc (.cells nA 39)).alloc (.cells #[.int .u64 0, .int .u64 0, .int .u64 0, .int .u64 0, .int .u64 0, .int .u64 0, .int .u64 0, .int .u64 0, .int .u64 0, .int .u64 0, .int .u64 0, .int .u64 0, .int .u64 0, .int .u64 0, .int .u64 0, .int .u64 0, .int .u64 0, .int .u64 0, .int .u64 0, .int .u64 0] 29)) (w.heap.size + 1) 39 nA := by
    have := ((Box.new (w.alloc (.cells e 29)) 39 nA).alloc (.cells #[.int .u64 0, .int .u64 0, .int .u64 0, .int .u64 0, .int .u64 0, .int .u64 0, .int .u64 0, .int .u64 0, .int .u64 0, .int .u64 0, .int .u64 0, .int .u64 0, .int .u64 0, .int .u64 0, .int .u64 0, .int .u64 0, .int .u64 0, .int .u64 0, .int .u64 0, .int .u64 0] 29))
    simp only [World.size_alloc] at this
    exact this
  have lN : w.heap.size ≤ (w.heap.size + 1) := by omega
  have n_P_N : w.heap.size ≠ (w.heap.size + 1) := by omega
  have n_N_P : (w.heap.size + 1) ≠ w.heap.size := by omega
  have hO : Box (((w.alloc (.cells e 29)).alloc (.cells nA 39)).alloc (.cells #[.int .u64 0, .int .u64 0, .int .u64 0, .int .u64 0, .int .u64 0, .int .u64 0, .int .u64 0, .int .u64 0, .int .u64 0, .int .u64 0, .int .u64 0, .int .u64 0, .int .u64 0, .int .u64 0, .int .u64 0, .int .u64 0, .int .u64 0, .int .u64 0, .int .u64 0, .int .u64 0] 29)) (w.heap.size + 2) 29 #[.int .u64 0, .int .u64 0, .int .u64 0, .int .u64 0, .int .u64 0, .int .u64 0, .int .u64 0, .int .u64 0, .int .u64 0, .int .u64 0, .int .u64 0, .int .u64 0, .int .u64 0, .int .u64 0, .int .u64 0, .int .u64 0, .int .u64 0, .int .u64 0, .int .u64 0, .int .u64 0] := by
    have := (Box.new ((w.alloc (.cells e 29)).alloc (.cells nA 39)) 29 #[.int .u64 0, .int .u64 0, .int .u64 0, .int .u64 0, .int .u64 0, .int .u64 0, .int .u64 0, .int .u64 0, .int .u64 0, .int .u64 0, .int .u64 0, .int .u64 0, .int .u64 0, .int .u64 0, .int .u64 0, .int .u64 0, .int .u64 0, .int .u64 0, .int .u64 0, .int .u64 0])
    simp only [World.size_alloc, Nat.add_assoc, Nat.reduceAdd] at this
    exact this
  have lO : w.heap.size ≤ (w.heap.size + 2) := by omega
  have n_P_O : w.heap.size ≠ (w.heap.size + 2) := by omega
  have n_O_P : (w.heap.size + 2) ≠ w.heap.size := by omega
  have n_N_O : (w.heap.size + 1) ≠ (w.heap.size + 2) := by omega
  have n_O_N : (w.heap.size + 2) ≠ (w.heap.size + 1) := by omega
  have hB : Below w.heap.size w (((w.alloc (.cells e 29)).alloc (.cells nA 39)).alloc (.cells #[.int .u64 0, .int .u64 0, .int .u64 0, .int .u64 0, .int .u64 0, .int .u64 0, .int .u64 0, .int .u64 0, .int .u64 0, .int .u64 0, .int .u64 0, .int .u64 0, .int .u64 0, .int .u64 0, .int .u64 0, .int .u64 0, .int .u64 0, .int .u64 0, .int .u64 0, .int .u64 0] 29)) := ((((Below.refl w.heap.size w).alloc (by simp; try omega) (.cells e 29)).alloc (by simp; try omega) (.cells nA 39)).alloc (by simp; try omega) (.cells #[.int .u64 0, .int .u64 0, .int .u64 0, .int .u64 0, .int .u64 0, .int .u64 0, .int .u64 0, .int .u64 0, .int .u64 0, .int .u64 0, .int .u64 0, .int .u64 0, .int .u64 0, .int .u64 0, .int .u64 0, .int .u64 0, .int .u64 0, .int .u64 0, .int .u64 0, .int .u64 0] 29))
  have hS := hB.size
  change Code.wp _ _ _ _ (((w.alloc (.cells e 29)).alloc (.cells nA 39)).alloc (.cells #[.int .u64 0, .int .u64 0, .int .u64 0, .int .u64 0, .int .u64 0, .int .u64 0, .int .u64 0, .int .u64 0, .int .u64 0, .int .u64 0, .int .u64 0, .int .u64 0, .int .u64 0, .int .u64 0, .int .u64 0, .int .u64 0, .int .u64 0, .int .u64 0, .int .u64 0, .int .u64 0] 29))
  generalize (((w.alloc (.cells e 29)).alloc (.cells nA 39)).alloc (.cells #[.int .u64 0, .int .u64 0, .int .u64 0, .int .u64 0, .int .u64 0, .int .u64 0, .int .u64 0, .int .u64 0, .int .u64 0, .int .u64 0, .int .u64 0, .int .u64 0, .int .u64 0, .int .u64 0, .int .u64 0, .int .u64 0, .int .u64 0, .int .u64 0, .int .u64 0, .int .u64 0] 29)) = v0 at *
  go_step
  refine wpList_enterR rfl 44 #[] (by simp [go_sem]) _ (of_p _) ?_
  rintro e v1 ⟨dA, rfl, hd, bv1⟩
  refine ⟨_, rfl, ?_⟩
  simp only [Act.put, List.setIfInBounds_toArray, List.set_cons_zero, List.set_cons_succ]
  replace hP := hP.after bv1
  replace hN := hN.after bv1
  replace hO := hO.after bv1
  replace hB := hB.trans (bv1.mono hS)
  replace hS := Nat.le_trans hS bv1.size
  clear bv1
  have HD := Lib.hid hd
  clear hd
  refine wpList_new rfl 72 rfl #[.int .u64 0, .int .u64 0, .int .u64 0, .int .u64 0, .int .u64 0] (by intro w; simp [go_sem]) ?_
  intro gA v2 hA lA bv2
  have hga : w.heap.size + 3 ≤ gA := by have := hO.lt; omega
  simp only [Act.put, List.setIfInBounds_toArray, List.set_cons_zero, List.set_cons_succ]
  have n_P_A := hP.before lA
  have n_A_P := hP.behind lA
  have n_N_A := hN.before lA
  have n_A_N := hN.behind lA
  have n_O_A := hO.before lA
  have n_A_O := hO.behind lA
  replace lA := Nat.le_trans hS lA
  replace hP := hP.after bv2
  replace hN := hN.after bv2
  replace hO := hO.after bv2
  replace hB := hB.trans (bv2.mono hS)
  replace hS := Nat.le_trans hS bv2.size
  clear bv2
  refine wpList_store_box (cells := dA) rfl 72 (.tmp 5) (.tmp 10) rfl hA (by rfl) (by rfl) (by rw [HD.out.size]; rfl) (by rw [HD.out.size]; kernel_rfl) (HD.out.one) ?_
  intro v3 hA_ stv3
  simp only [Act.put]
  replace hP := stv3.box hP n_P_A
  replace hN := stv3.box hN n_N_A
  replace hO := stv3.box hO n_O_A
  replace hB := stv3.below w.heap.size w lA hB
  replace hS := Nat.le_trans hS (Nat.le_of_eq stv3.size.symm)
  clear hA stv3
  have hA := hA_
  clear hA_
  go_upto_region 2 with fail
  go_step
  refine wpList_new rfl 76 rfl (flat (List.replicate 16 Z20)) (by intro w; kernel_rfl) ?_
  intro gF v4 hF lF bv4
  simp only [Act.put, List.setIfInBounds_toArray, List.set_cons_zero, List.set_cons_succ]
  have n_P_F := hP.before lF
  have n_F_P := hP.behind lF
  have n_N_F := hN.before lF
  have n_F_N := hN.behind lF
  have n_O_F := hO.before lF
  have n_F_O := hO.behind lF
  have n_A_F := hA.before lF
  have n_F_A := hA.behind lF
  have hgf := hA.lt
  replace hgf : gA < gF := Nat.lt_of_lt_of_le hgf lF
  replace lF := Nat.le_trans hS lF
  replace hP := hP.after bv4
  replace hN := hN.after bv4
  replace hO := hO.after bv4
  replace hA := hA.after bv4
  replace hB := hB.trans (bv4.mono hS)
  replace hS := Nat.le_trans hS bv4.size
  clear bv4
  go_upto_region 3 with fail
  go_step
  refine wpList_enterR rfl 20 #[] (by simp [go_sem]) _ (zero_p _) ?_
  rintro e v5 ⟨ez, rfl, hz, bv5⟩
  refine ⟨_, rfl, ?_⟩
  simp only [Act.put, List.setIfInBounds_toArray, List.set_cons_zero, List.set_cons_succ]
  replace hP := hP.after bv5
  replace hN := hN.after bv5
  replace hO := hO.after bv5
  replace hA := hA.after bv5
  replace hF := hF.after bv5
  replace hB := hB.trans (bv5.mono hS)
  replace hS := Nat.le_trans hS bv5.size
  clear bv5
  have HZ := Lib.hid hz
  clear hz
  refine wpList_value rfl (.pointer (some ⟨gF, 0, none⟩)) (by simp [go_sem]) ?_
  simp only [Act.put, List.setIfInBounds_toArray, List.set_cons_zero, List.set_cons_succ]
  refine wpList_store_few (i := 0) rfl 29 _ _ rfl hF (few_new p).sized (by simp) (by rfl) (by rfl) HZ.out.size (by rw [HZ.out.size]; kernel_rfl) HZ.out.one ?_
  intro v6 hF_ st
  simp only [Act.put]
  skip
  have T0 : TmS w gA gF e nA #[.int .u64 0, .int .u64 0, .int .u64 0, .int .u64 0, .int .u64 0, .int .u64 0, .int .u64 0, .int .u64 0, .int .u64 0, .int .u64 0, .int .u64 0, .int .u64 0, .int .u64 0, .int .u64 0, .int .u64 0, .int .u64 0, .int .u64 0, .int .u64 0, .int .u64 0, .int .u64 0] dA (flat ((List.replicate 16 Z20).set 0 ez)) v6 := TmS.few ⟨hP, hN, hO, hA, hF, hB⟩ st hF_ hga hgf
  have FW0 : FewIs p ((List.replicate 16 Z20).set 0 ez) 1 := FewIs.set (k := 0) (few_new p) (by rw [smul_zero]; exact HZ.out)
  clear hP hN hO hA hF hB hF_ st HZ hS
  generalize (List.replicate 16 Z20).set 0 ez = es0 at *
  have TM := Lib.hid T0
  have HW := Lib.hid FW0
  clear T0 FW0
  clear n_P_N n_N_P n_P_O n_O_P n_N_O n_O_N n_P_A n_A_P n_N_A n_A_N n_O_A n_A_O n_P_F n_F_P n_N_F n_F_N n_O_F n_F_O n_A_F n_F_A lP lN lO lA lF
  go_upto_region 5 with fail
  go_loopw [15] (fun i wr => ∃ (k : Nat) (es : List (Array Value)), k ≤ 15 ∧ i = .int .i64 k ∧ FewIs p es (k + 1) ∧ TmS w gA gF e nA #[.int .u64 0, .int .u64 0, .int .u64 0, .int .u64 0, .int .u64 0, .int .u64 0, .int .u64 0, .int .u64 0, .int .u64 0, .int .u64 0, .int .u64 0, .int .u64 0, .int .u64 0, .int .u64 0, .int .u64 0, .int .u64 0, .int .u64 0, .int .u64 0, .int .u64 0, .int .u64 0] dA (flat es) wr) (fun i _ => 15 - (intOf i).toNat)
  case atStart => exact ⟨0, es0, by omega, rfl, HW.out, TM.out⟩
  case round =>
    clear TM HW
    obtain ⟨k, es, hk, rfl, hw, tm⟩ := hrel
    have HW := Lib.hid hw
    have TM := Lib.hid tm
    clear hw tm
    by_cases hlt : k < 15
    case pos =>
      have hki : (k : Int) < 15 := by omega
      have hk0 : (0 : Int) ≤ k := by omega
      have hk16 : (k : Int) < 16 := by omega
      have hk17 : (k : Int) + 1 < 16 := by omega
      have hk01 : (0 : Int) ≤ (k : Int) + 1 := by omega
      have HLEN := Lib.hid HW.out.len
      have hkl : k < es.length := by rw [HLEN.out]; omega
      have HG := Lib.hid (HW.out.get k hkl (by omega))
      have HR := Lib.hid (fun w' (h : TmS w gA gF e nA #[.int .u64 0, .int .u64 0, .int .u64 0, .int .u64 0, .int .u64 0, .int .u64 0, .int .u64 0, .int .u64 0, .int .u64 0, .int .u64 0, .int .u64 0, .int .u64 0, .int .u64 0, .int .u64 0, .int .u64 0, .int .u64 0, .int .u64 0, .int .u64 0, .int .u64 0, .int .u64 0] dA (flat es) w') => few_range h.F HW.out.sized hkl)
      have HAD := Lib.hid (fun w' => add0_p HD.out HG.out HP.out w')
      rw [show padd (smul k p) p = smul (k + 1) p from (smul_succ k p).symm] at HAD
      have HSE := Lib.hid (HW.out.sized _ (List.getElem_mem hkl))
      generalize (es[k]'hkl) = ek at *
      go_upto_region 7 with fail
      have hKS : Keeps (fun w' => TmS w gA gF e nA #[.int .u64 0, .int .u64 0, .int .u64 0, .int .u64 0, .int .u64 0, .int .u64 0, .int .u64 0, .int .u64 0, .int .u64 0, .int .u64 0, .int .u64 0, .int .u64 0, .int .u64 0, .int .u64 0, .int .u64 0, .int .u64 0, .int .u64 0, .int .u64 0, .int .u64 0, .int .u64 0] dA (flat es) w') := fun w1 w2 h b => h.after b
      refine wp_region_W (w := wr) [9] (fun w' => TmS w gA gF e nA #[.int .u64 0, .int .u64 0, .int .u64 0, .int .u64 0, .int .u64 0, .int .u64 0, .int .u64 0, .int .u64 0, .int .u64 0, .int .u64 0, .int .u64 0, .int .u64 0, .int .u64 0, .int .u64 0, .int .u64 0, .int .u64 0, .int .u64 0, .int .u64 0, .int .u64 0, .int .u64 0] dA (flat es) w') rfl (hKS _ _ TM.out (Below.refl _ _).drew) ?_

      skip
      refine wpW_val 0 hKS rfl (by kernel_rfl) (by kernel_rfl) (by kernel_rfl) (by kernel_rfl) rfl (fun _ _ _ _ h => h) (.int .i64 k) (fun w' h => by simp [go_sem]) ?_
      simp only [Act.put, List.setIfInBounds_toArray, List.set_cons_zero, List.set_cons_succ]
      refine wpW_val 1 hKS rfl (by kernel_rfl) (by kernel_rfl) (by kernel_rfl) (by kernel_rfl) rfl (fun _ _ _ _ h => h) (.int .i64 ((k : Int) + 1)) (fun w' h => by simp [go_sem]; rw [IntKind.wrap_i64]; omega) ?_
      simp only [Act.put, List.setIfInBounds_toArray, List.set_cons_zero, List.set_cons_succ]
      refine wpW_val 2 hKS rfl (by kernel_rfl) (by kernel_rfl) (by kernel_rfl) (by kernel_rfl) rfl (fun _ _ _ _ h => h) (.agg dA) (fun w' h => run_load_box rfl h.A (by simp [go_sem]) Try.underlying72 rfl (by rw [HD.out.size]; kernel_rfl)) ?_
      simp only [Act.put, List.setIfInBounds_toArray, List.set_cons_zero, List.set_cons_succ]
      refine wpW_val 3 hKS rfl (by kernel_rfl) (by kernel_rfl) (by kernel_rfl) (by kernel_rfl) rfl (fun _ _ _ _ h => h) (.int .i64 k) (fun w' h => by simp [go_sem]) ?_
      simp only [Act.put, List.setIfInBounds_toArray, List.set_cons_zero, List.set_cons_succ]
      refine wpW_val 4 hKS rfl (by kernel_rfl) (by kernel_rfl) (by kernel_rfl) (by kernel_rfl) rfl (fun _ _ _ _ h => h) (.pointer (some ⟨gF, k * 20, none⟩)) (fun w' h => by simp [go_sem, hk16]) ?_
      simp only [Act.put, List.setIfInBounds_toArray, List.set_cons_zero, List.set_cons_succ]
      refine wpW_val 5 hKS rfl (by kernel_rfl) (by kernel_rfl) (by kernel_rfl) (by kernel_rfl) rfl (fun _ _ _ _ h => h) (.agg ek) (fun w' h => run_load_mid rfl (HR.out w' h) (by simp [go_sem]) Try.underlying29 rfl (by rw [HSE.out]; kernel_rfl)) ?_
      simp only [Act.put, List.setIfInBounds_toArray, List.set_cons_zero, List.set_cons_succ]
      refine wpW_val 6 hKS rfl (by kernel_rfl) (by kernel_rfl) (by kernel_rfl) (by kernel_rfl) rfl (fun _ _ _ _ h => h) (.agg e) (fun w' h => run_load_box rfl h.P (by simp [go_sem]) Try.underlying29 rfl (by rw [HSP.out]; kernel_rfl)) ?_
      simp only [Act.put, List.setIfInBounds_toArray, List.set_cons_zero, List.set_cons_succ]
      refine wpW_one 7 rfl (by kernel_rfl) (by kernel_rfl) rfl ?_
      intro z1 b1 s1
      refine wp_callR 45 #[.agg dA, .agg ek, .agg e] (by simp [go_sem]) _ (HAD.out z1) ?_
      rintro e_ z2 ⟨en, rfl, he, b2⟩
      have HE := Lib.hid he
      refine ⟨_, rfl, hKS _ _ s1 b2, ?_⟩
      clear he s1
      simp only [Act.put, List.setIfInBounds_toArray, List.set_cons_zero, List.set_cons_succ]

      refine wpW_val 8 hKS rfl (by kernel_rfl) (by kernel_rfl) (by kernel_rfl) (by kernel_rfl) rfl (fun _ _ _ _ h => h) (.pointer (some ⟨gF, (k + 1) * 20, none⟩)) (fun w' h => by simp [go_sem, hk17, hk01]) ?_
      simp only [Act.put, List.setIfInBounds_toArray, List.set_cons_zero, List.set_cons_succ]
      refine wpW_write 9 rfl (by kernel_rfl) (by kernel_rfl) rfl ?_
      intro z3 b3 s3
      refine wp_store_few (i := k + 1) 29 _ _ rfl s3.F HW.out.sized (by rw [HLEN.out]; omega) (by rfl) (by rfl) HE.out.size (by rw [HE.out.size]; kernel_rfl) HE.out.one ?_
      intro z4 hF4 st4
      have T4 := s3.few st4 hF4 hga hgf
      have F4 := HW.out.set HE.out
      clear hF4 st4 s3
      simp only [Act.put, List.setIfInBounds_toArray, List.set_cons_zero, List.set_cons_succ]
      refine wpU_done (by kernel_rfl) ?_
      intro z5 b5 _
      replace T4 := T4.after b5
      clear b5
      generalize es.set (k + 1) en = es' at *
      have TM' := Lib.hid T4
      have HW' := Lib.hid F4
      clear T4 F4 hKS HR HAD HG HSE TM HW HE
      go_wp2_with fail
      go_roundw
      case rel => exact ⟨k + 1, es', by omega, by go_num, HW'.out, TM'.out⟩
      case measure => simp [intOf]; omega
    case neg =>
      have hkn : ¬ (k : Int) < 15 := by omega
      have hk15 : k + 1 = 16 := by omega
      replace HW : Hid (FewIs p es 16) := Lib.hid (by rw [← hk15]; exact HW.out)
      clear hk15
      go_upto_region 9 with fail
      clear hkn
      go_step
      refine wpList_enterR rfl 20 #[] (by simp [go_sem]) _ (zero_p _) ?_
      rintro e_ z1 ⟨oz, rfl, hz, b1⟩
      have HZ : Hid (IsPt (smul (topN f 0) p) oz) := Lib.hid (by rw [topN_zero, smul_zero]; exact hz)
      refine ⟨_, rfl, ?_⟩
      simp only [Act.put, List.setIfInBounds_toArray, List.set_cons_zero, List.set_cons_succ]
      replace TM := Lib.hid (TM.out.after b1)
      clear hz b1
      refine wpList_new rfl 29 rfl #[.int .u64 0, .int .u64 0, .int .u64 0, .int .u64 0, .int .u64 0, .int .u64 0, .int .u64 0, .int .u64 0, .int .u64 0, .int .u64 0, .int .u64 0, .int .u64 0, .int .u64 0, .int .u64 0, .int .u64 0, .int .u64 0, .int .u64 0, .int .u64 0, .int .u64 0, .int .u64 0] (by intro w; simp [go_sem]) ?_
      intro gR z2 hR lR b2
      simp only [Act.put, List.setIfInBounds_toArray, List.set_cons_zero, List.set_cons_succ]
      have hgr : gF < gR := Nat.lt_of_lt_of_le TM.out.F.lt lR
      replace TM := Lib.hid (TM.out.after b2)
      clear lR b2
      refine wpList_store_box (cells := oz) rfl 29 (.tmp 8) (.tmp 28) rfl hR (by rfl) (by rfl) (by rw [HZ.out.size]; rfl) (by rw [HZ.out.size]; kernel_rfl) HZ.out.one ?_
      intro z3 hR3 st
      simp only [Act.put]
      replace TM := Lib.hid (TM.out.far st hga hgf hgr)
      have HR := Lib.hid hR3
      clear hR st hR3 hlt hk
      go_upto_region 11 with fail
      go_loopw [9] (fun i wr => ∃ (m : Nat) (o : Array Value), m ≤ 64 ∧ i = .int .i64 (63 - (m : Int)) ∧ IsPt (smul (topN f m) p) o ∧ TmS w gA gF e nA #[.int .u64 0, .int .u64 0, .int .u64 0, .int .u64 0, .int .u64 0, .int .u64 0, .int .u64 0, .int .u64 0, .int .u64 0, .int .u64 0, .int .u64 0, .int .u64 0, .int .u64 0, .int .u64 0, .int .u64 0, .int .u64 0, .int .u64 0, .int .u64 0, .int .u64 0, .int .u64 0] dA (flat es) wr ∧ Box wr gR 29 o) (fun i _ => (intOf i + 1).toNat)
      case atStart => exact ⟨0, oz, by omega, rfl, HZ.out, TM.out, HR.out⟩
      case round =>
        clear TM HZ HR
        obtain ⟨wa, rfl⟩ : ∃ wa : World, wa = wr := ⟨_, rfl⟩
        obtain ⟨m, o, hm, rfl, ho, tm, hr⟩ := hrel
        have HO := Lib.hid ho
        have TM := Lib.hid tm
        have HR := Lib.hid hr
        clear ho tm hr
        by_cases hlt : m < 64
        case neg =>
          obtain rfl : m = 64 := by omega
          have HT : Hid (IsPt (smul (topB f 32) p) o) := Lib.hid (by rw [← topN_eq f HFL.out 32 (by omega)]; exact HO.out)
          have hO := TM.out.O
          go_wp2_with first | (refine wpList_load_box rfl 29 _ rfl HR.out (by rfl) Try.underlying29 rfl (by rw [HT.out.size]; kernel_rfl) ?_) | (refine wpList_store_box (cells := o) rfl 29 _ _ rfl hO (by rfl) (by rfl) (by rw [HT.out.size]; rfl) (by rw [HT.out.size]; kernel_rfl) HT.out.one ?_; intro u9 X9 st9)
          exact bodyPost_ret (v := .agg o) (box_result rfl _ _ (by rfl) X9 Try.underlying29 rfl (by rw [HT.out.size]; kernel_rfl)) rfl ⟨o, rfl, HT.out, st9.below w.heap.size w (by omega) TM.out.B⟩
        case pos =>
          obtain ⟨j, hj⟩ : ∃ j : Nat, j = 63 - m := ⟨_, rfl⟩
          have hji : (63 : Int) - (m : Int) = (j : Nat) := by omega
          rw [hji]
          have HJ := Lib.hid hj
          have hj63 : j ≤ 63 := by omega
          clear hj hji
          have hj0 : (0 : Int) ≤ (j : Nat) := by omega
          go_upto_region 14 with fail
          go_loopw [33] (fun i wr => ∃ (k : Nat) (o : Array Value), k ≤ 4 ∧ i = .int .i64 k ∧ IsPt (smul (2 ^ k * topN f m) p) o ∧ TmS w gA gF e nA #[.int .u64 0, .int .u64 0, .int .u64 0, .int .u64 0, .int .u64 0, .int .u64 0, .int .u64 0, .int .u64 0, .int .u64 0, .int .u64 0, .int .u64 0, .int .u64 0, .int .u64 0, .int .u64 0, .int .u64 0, .int .u64 0, .int .u64 0, .int .u64 0, .int .u64 0, .int .u64 0] dA (flat es) wr ∧ Box wr gR 29 o) (fun i _ => 4 - (intOf i).toNat)
          case atStart => exact ⟨0, o, by omega, rfl, by rw [Nat.pow_zero, Nat.one_mul]; exact HO.out, TM.out, HR.out⟩
          case round =>
            clear TM HO HR
            obtain ⟨k, o2, hk, rfl, ho, tm, hr⟩ := hrel
            have HO := Lib.hid ho
            have TM := Lib.hid tm
            have HR := Lib.hid hr
            clear ho tm hr
            by_cases hk4 : k < 4
            case pos =>
              have hk4i : (k : Int) < 4 := by omega
              go_wp2_with first | (refine wpList_load_box rfl 72 _ rfl TM.out.A (by rfl) Try.underlying72 rfl (by rw [HD.out.size]; kernel_rfl) ?_) | (refine wpList_load_box rfl 29 _ rfl HR.out (by rfl) Try.underlying29 rfl (by rw [HO.out.size]; kernel_rfl) ?_)
              refine (add0_p HD.out HO.out HO.out _).mono ?_
              rintro e_ z1 ⟨en, rfl, he, b1⟩
              have HE : Hid (IsPt (smul (2 ^ (k + 1) * topN f m) p) en) := Lib.hid (by rw [smul_twice hok]; exact he)
              replace TM := Lib.hid (TM.out.after b1)
              replace HR := Lib.hid (HR.out.after b1)
              clear he b1
              go_upto_region 16 with (refine wpList_store_box (cells := en) rfl 29 _ _ rfl HR.out (by rfl) (by rfl) (by rw [HO.out.size, HE.out.size]) (by rw [HE.out.size]; kernel_rfl) HE.out.one ?_; intro u9 X9 st9)
              have TM' := Lib.hid (TM.out.far st9 hga hgf hgr)
              have HR' := Lib.hid X9
              clear TM HR HO st9 X9
              go_wp2_with fail
              go_roundw
              case rel => exact ⟨k + 1, en, by omega, by go_num, HE.out, TM'.out, HR'.out⟩
              case measure => simp [intOf]; omega
            case neg =>
              have hk4n : ¬ (k : Int) < 4 := by omega
              have hk44 : k = 4 := by omega
              replace HO : Hid (IsPt (smul (16 * topN f m) p) o2) := Lib.hid (by have h := HO.out; rw [hk44] at h; exact h)
              clear hk44
              obtain ⟨q, hq⟩ : ∃ q, q = j / 2 := ⟨_, rfl⟩
              obtain ⟨r, hr⟩ : ∃ r, r = j % 2 := ⟨_, rfl⟩
              obtain ⟨c, hc⟩ : ∃ c, c = f q := ⟨_, rfl⟩
              obtain ⟨d, hd⟩ : ∃ d, d = c / 16 ^ r % 16 := ⟨_, rfl⟩
              obtain ⟨s, hs⟩ : ∃ s, s = c / 16 ^ r := ⟨_, rfl⟩
              have hd16 : d < 16 := by rw [hd]; omega
              have hr2 : r < 2 := by omega
              have hq32 : q < 32 := by omega
              have hc256 : c < 256 := by rw [hc]; exact HFL.out q
              have HSUC : Hid (topN f (m + 1) = 16 * topN f m + d) := Lib.hid (by rw [topN_succ, ← HJ.out, ← hq, ← hr, ← hc, ← hd])
              have HGN := Lib.hid (show nA[q]? = some (.int .u8 (c : Nat)) by rw [hc]; exact HGET.out q hq32)
              have hs256 : s < 256 := by rw [hs]; exact Nat.lt_of_le_of_lt (Nat.div_le_self _ _) hc256
              have i1 : (j : Int).tdiv 2 = (q : Int) := by rw [Int.tdiv_eq_ediv_of_nonneg (by omega)]; omega
              have i2 : (j : Int).tmod 2 = (r : Int) := by rw [Int.tmod_eq_emod_of_nonneg (by omega)]; omega
              have j1 : (j : Int) / 2 = (q : Int) := by omega
              have j2 : (j : Int) % 2 = (r : Int) := by omega
              have f1 : bits .and .u8 (s : Int) 15 = (d : Int) := by rw [u8_and15 (x := (s : Int)) (by omega) (by omega)]; rw [hd, ← hs]; omega
              have HSH := Lib.hid (shr_nib c r s hr2 hs)
              have hjm : j + m = 63 := by have := HJ.out; omega
              have HQ := Lib.hid hq32
              have hqi : (q : Int) < 32 := by omega
              have hdi : (d : Int) < 16 := by omega
              have HF1 := Lib.hid f1
              have HI1 := Lib.hid i1
              have HI2 := Lib.hid i2
              have HJ1 := Lib.hid j1
              have HJ2 := Lib.hid j2
              have hdl : d < es.length := by rw [HW.out.len]; omega
              have HG := Lib.hid (HW.out.get d hdl (by omega))
              have HRG := Lib.hid (fun w' (h : TmS w gA gF e nA #[.int .u64 0, .int .u64 0, .int .u64 0, .int .u64 0, .int .u64 0, .int .u64 0, .int .u64 0, .int .u64 0, .int .u64 0, .int .u64 0, .int .u64 0, .int .u64 0, .int .u64 0, .int .u64 0, .int .u64 0, .int .u64 0, .int .u64 0, .int .u64 0, .int .u64 0, .int .u64 0] dA (flat es) w') => few_range h.F HW.out.sized hdl)
              have HAD := Lib.hid (fun w' => add0_p HD.out HO.out HG.out w')
              have HSE := Lib.hid (HW.out.sized _ (List.getElem_mem hdl))
              rw [← smul_add hok, ← HSUC.out] at HAD
              clear hq hr hc hd hs f1 i1 i2 j1 j2 hs256 hc256
              generalize (es[d]'hdl) = ed at *
              go_upto_region 17 with fail
              have hKS : Keeps (fun w' => TmS w gA gF e nA #[.int .u64 0, .int .u64 0, .int .u64 0, .int .u64 0, .int .u64 0, .int .u64 0, .int .u64 0, .int .u64 0, .int .u64 0, .int .u64 0, .int .u64 0, .int .u64 0, .int .u64 0, .int .u64 0, .int .u64 0, .int .u64 0, .int .u64 0, .int .u64 0, .int .u64 0, .int .u64 0] dA (flat es) w' ∧ Box w' gR 29 o2) := fun w1 w2 h b => ⟨h.1.after b, h.2.after b⟩
              refine wp_region_W (w := wr) [14] (fun w' => TmS w gA gF e nA #[.int .u64 0, .int .u64 0, .int .u64 0, .int .u64 0, .int .u64 0, .int .u64 0, .int .u64 0, .int .u64 0, .int .u64 0, .int .u64 0, .int .u64 0, .int .u64 0, .int .u64 0, .int .u64 0, .int .u64 0, .int .u64 0, .int .u64 0, .int .u64 0, .int .u64 0, .int .u64 0] dA (flat es) w' ∧ Box w' gR 29 o2) rfl (hKS _ _ ⟨TM.out, HR.out⟩ (Below.refl _ _).drew) ?_

              skip
              refine wpW_val 0 hKS rfl (by kernel_rfl) (by kernel_rfl) (by kernel_rfl) (by kernel_rfl) rfl (fun _ _ _ _ h => h) (.agg dA) (fun w' h => run_load_box rfl h.1.A (by simp [go_sem]) Try.underlying72 rfl (by rw [HD.out.size]; kernel_rfl)) ?_
              simp only [Act.put, List.setIfInBounds_toArray, List.set_cons_zero, List.set_cons_succ]
              refine wpW_val 1 hKS rfl (by kernel_rfl) (by kernel_rfl) (by kernel_rfl) (by kernel_rfl) rfl (fun _ _ _ _ h => h) (.agg o2) (fun w' h => run_load_box rfl h.2 (by simp [go_sem]) Try.underlying29 rfl (by rw [HO.out.size]; kernel_rfl)) ?_
              simp only [Act.put, List.setIfInBounds_toArray, List.set_cons_zero, List.set_cons_succ]
              refine wpW_val 2 hKS rfl (by kernel_rfl) (by kernel_rfl) (by kernel_rfl) (by kernel_rfl) rfl (fun _ _ _ _ h => h) (.int .i64 j) (fun w' h => by simp [go_sem]) ?_
              simp only [Act.put, List.setIfInBounds_toArray, List.set_cons_zero, List.set_cons_succ]
              refine wpW_val 3 hKS rfl (by kernel_rfl) (by kernel_rfl) (by kernel_rfl) (by kernel_rfl) rfl (fun _ _ _ _ h => h) (.int .i64 q) (fun w' h => by simp [go_sem, HI1.out, HJ1.out]; try (rw [IntKind.wrap_i64]; omega)) ?_
              simp only [Act.put, List.setIfInBounds_toArray, List.set_cons_zero, List.set_cons_succ]
              refine wpW_val 4 hKS rfl (by kernel_rfl) (by kernel_rfl) (by kernel_rfl) (by kernel_rfl) rfl (fun _ _ _ _ h => h) (.pointer (some ⟨w.heap.size + 1, q, none⟩)) (fun w' h => by simp [go_sem, hqi]) ?_
              simp only [Act.put, List.setIfInBounds_toArray, List.set_cons_zero, List.set_cons_succ]
              refine wpW_val 5 hKS rfl (by kernel_rfl) (by kernel_rfl) (by kernel_rfl) (by kernel_rfl) rfl (fun _ _ _ _ h => h) (.int .u8 c) (fun w' h => by have := h.1.N.cell q HGN.out; simp [go_sem, this]) ?_
              simp only [Act.put, List.setIfInBounds_toArray, List.set_cons_zero, List.set_cons_succ]
              refine wpW_val 6 hKS rfl (by kernel_rfl) (by kernel_rfl) (by kernel_rfl) (by kernel_rfl) rfl (fun _ _ _ _ h => h) (.int .i64 j) (fun w' h => by simp [go_sem]) ?_
              simp only [Act.put, List.setIfInBounds_toArray, List.set_cons_zero, List.set_cons_succ]
              refine wpW_val 7 hKS rfl (by kernel_rfl) (by kernel_rfl) (by kernel_rfl) (by kernel_rfl) rfl (fun _ _ _ _ h => h) (.int .i64 r) (fun w' h => by simp [go_sem, HI2.out, HJ2.out]; try (rw [IntKind.wrap_i64]; omega)) ?_
              simp only [Act.put, List.setIfInBounds_toArray, List.set_cons_zero, List.set_cons_succ]
              refine wpW_val 8 hKS rfl (by kernel_rfl) (by kernel_rfl) (by kernel_rfl) (by kernel_rfl) rfl (fun _ _ _ _ h => h) (.int .i64 (4 * (r : Int))) (fun w' h => by simp [go_sem]; try (rw [IntKind.wrap_i64]; omega)) ?_
              simp only [Act.put, List.setIfInBounds_toArray, List.set_cons_zero, List.set_cons_succ]
              refine wpW_val 9 hKS rfl (by kernel_rfl) (by kernel_rfl) (by kernel_rfl) (by kernel_rfl) rfl (fun _ _ _ _ h => h) (.int .u8 s) (fun w' h => by simp [go_sem]; exact HSH.out) ?_
              simp only [Act.put, List.setIfInBounds_toArray, List.set_cons_zero, List.set_cons_succ]
              refine wpW_val 10 hKS rfl (by kernel_rfl) (by kernel_rfl) (by kernel_rfl) (by kernel_rfl) rfl (fun _ _ _ _ h => h) (.int .u8 d) (fun w' h => by simp [go_sem, HF1.out]) ?_
              simp only [Act.put, List.setIfInBounds_toArray, List.set_cons_zero, List.set_cons_succ]
              refine wpW_val 11 hKS rfl (by kernel_rfl) (by kernel_rfl) (by kernel_rfl) (by kernel_rfl) rfl (fun _ _ _ _ h => h) (.pointer (some ⟨gF, d * 20, none⟩)) (fun w' h => by simp [go_sem, hdi]) ?_
              simp only [Act.put, List.setIfInBounds_toArray, List.set_cons_zero, List.set_cons_succ]
              refine wpW_val 12 hKS rfl (by kernel_rfl) (by kernel_rfl) (by kernel_rfl) (by kernel_rfl) rfl (fun _ _ _ _ h => h) (.agg ed) (fun w' h => run_load_mid rfl (HRG.out w' h.1) (by simp [go_sem]) Try.underlying29 rfl (by rw [HSE.out]; kernel_rfl)) ?_
              simp only [Act.put, List.setIfInBounds_toArray, List.set_cons_zero, List.set_cons_succ]
              refine wpW_one 13 rfl (by kernel_rfl) (by kernel_rfl) rfl ?_
              intro z1 b1 s1
              refine wp_callR 45 #[.agg dA, .agg o2, .agg ed] (by simp [go_sem]) _ (HAD.out z1) ?_
              rintro e_ z2 ⟨en, rfl, he, b2⟩
              have HE := Lib.hid he
              refine ⟨_, rfl, hKS _ _ s1 b2, ?_⟩
              clear he s1
              simp only [Act.put, List.setIfInBounds_toArray, List.set_cons_zero, List.set_cons_succ]
              refine wpW_store_box 14 rfl (by kernel_rfl) (by kernel_rfl) rfl 29 _ _ rfl (HR.out.drew.after (b1.trans (b2.mono b1.size))) (by rfl) (by rfl) (by rw [HO.out.size, HE.out.size]) (by rw [HE.out.size]; kernel_rfl) HE.out.one ?_
              intro z3 z4 b3 s3 hR4 st4
              have T4 := s3.1.far st4 hga hgf hgr
              clear st4 s3
              simp only [Act.put, List.setIfInBounds_toArray, List.set_cons_zero, List.set_cons_succ]
              refine wpU_done (by kernel_rfl) ?_
              intro z5 b5 _
              have TM' := Lib.hid (T4.after b5)
              have HR' := Lib.hid (hR4.after b5)
              clear b5 T4 hR4 hKS HRG HAD HG HSE TM HR HO
              go_wp2_with fail
              go_roundw
              case rel => exact ⟨m + 1, en, by omega, by go_num, HE.out, TM'.out, HR'.out⟩
              case measure => simp [intOf] <;> omega


end Go.Proofs.Ytpkoniebbkkmjaa

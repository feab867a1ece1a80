/- scalar: the laws ScalarReduces, ScalarMuls, ScalarLaws: the walks. -/
import Derived.Test.YtddgkoheihlbdaaScLaw
namespace Go.Proofs.Ytddgkoheihlbdaa
open Go.RowKit

theorem LL_pow : LL < 256 ^ 32 := by unfold LL; decide
theorem mayB_rest (n : Nat) : mayB (leBytes (n % LL) 32) = true := by
  have h1 : n % LL < LL := Nat.mod_lt _ (by unfold LL; omega)
  unfold mayB
  rw [leBytes_len, leNat_leBytes, Nat.mod_eq_of_lt (Nat.lt_trans h1 LL_pow)]
  simp [h1]

set_option maxRecDepth 100000 in
set_option maxHeartbeats 8000000 in
theorem ScalarReduces_walk (a0 : Option Addr) (len0 cap0 : Nat) (z0 : List Int) (w : World) (w0 : IsRow .u8 w a0 len0 cap0 z0) :
    Calls Try.prog 4 #[.slice a0 len0 cap0] w fun e w' => e = .returned (.bool true) ∧ Below w.heap.size w w' := by
  obtain ⟨l, hs⟩ := w0.sl
  have hln := hs.1
  have hcap := hs.2.1
  have hml := hs.2.2.1
  have HAW := Lib.hid (fun w : World => awake6_any w)
  have hnb : (len0 : Int) ≤ 9223372036854775807 := by unfold maxLen at hml; omega
  clear w0 hml
  by_cases hgt : 100 < len0
  · go_enter Try.func4, Try.ntmps4
    go_wp2_with fail
    refine (HAW.out _).mono ?_
    rintro e w9 ⟨rfl, hb9⟩
    go_wp2_with fail
    go_ret
    exact ⟨rfl, hb9⟩
  · have hlt : len0 < 100000 := by omega
    have HR := Lib.hid (fun w (h : Sl w a0 len0 cap0 l) => reduce_any a0 len0 cap0 l w h)
    have HRR := Lib.hid (fun w (h : Sl w a0 len0 cap0 l) => refReduce_any a0 len0 cap0 l w hlt h)
    have HM := Lib.hid (fun w (h : Sl w a0 len0 cap0 l) => may_any a0 len0 cap0 l w h)
    have HRM := Lib.hid (fun w (h : Sl w a0 len0 cap0 l) => refMay_any a0 len0 cap0 l w hlt h)
    have HOS := Lib.hid (bts_size (leNat l % LL))
    have HO1 := Lib.hid (bts_one (leNat l % LL))
    have HSL := Lib.hid (fun w g (h : Box w g 40 (bts (leNat l % LL))) => sl_bts h)
    have HMT := Lib.hid (mayB_rest (leNat l))
    obtain ⟨t, ht⟩ : ∃ t, t = mayB l := ⟨_, rfl⟩
    rw [← ht] at HM HRM
    clear ht
    obtain ⟨O, hO⟩ : ∃ O, O = bts (leNat l % LL) := ⟨_, rfl⟩
    rw [← hO] at HR HOS HO1 HSL
    clear hO
    obtain ⟨d, hd⟩ : ∃ d, d = leBytes (leNat l % LL) 32 := ⟨_, rfl⟩
    have HDL := Lib.hid (show d.length = 32 by rw [hd, leBytes_len])
    rw [← hd] at HSL HRR HMT
    clear hd hlt
    have hB0 := Below.refl w.heap.size w
    go_enter Try.func4, Try.ntmps4
    go_upto_region 3 with fail
    go_step
    refine wpList_value rfl (.slice a0 len0 cap0) (by simp [go_sem]) ?_
    simp only [Act.put, List.setIfInBounds_toArray, List.set_cons_zero, List.set_cons_succ]
    refine wpList_made_call rfl 27 #[.slice a0 len0 cap0] (by simp [go_sem]) _ (HR.out _ hs) ?_
    intro v1 b1
    simp only [Act.put, List.setIfInBounds_toArray, List.set_cons_zero, List.set_cons_succ]
    replace hs := hs.after b1
    have hs1 := hs
    replace hB0 := hB0.trans b1
    clear b1
    refine wpList_new rfl 40 rfl #[.int .u8 0, .int .u8 0, .int .u8 0, .int .u8 0, .int .u8 0, .int .u8 0, .int .u8 0, .int .u8 0, .int .u8 0, .int .u8 0, .int .u8 0, .int .u8 0, .int .u8 0, .int .u8 0, .int .u8 0, .int .u8 0, .int .u8 0, .int .u8 0, .int .u8 0, .int .u8 0, .int .u8 0, .int .u8 0, .int .u8 0, .int .u8 0, .int .u8 0, .int .u8 0, .int .u8 0, .int .u8 0, .int .u8 0, .int .u8 0, .int .u8 0, .int .u8 0] (by intro w; simp [go_sem]) ?_
    intro gO v2 hO0 lO b2
    simp only [Act.put, List.setIfInBounds_toArray, List.set_cons_zero, List.set_cons_succ]
    have lO' := Nat.le_trans hB0.size lO
    have hbx := b2
    replace hB0 := hB0.trans (b2.mono hB0.size)
    clear b2
    refine wpList_store_box (cells := O) rfl 40 (.tmp 3) (.tmp 9) rfl hO0 (by rfl) (by rfl) (by rw [HOS.out]; rfl) (by rw [HOS.out]; kernel_rfl) HO1.out ?_
    intro v3 hO3 st3
    simp only [Act.put]
    replace hB0 := st3.below w.heap.size w lO' hB0
    have hs3 : Sl v3 a0 len0 cap0 l := hs.after (st3.below v1.heap.size v1 lO hbx)
    clear st3 hO0 hs hs1 hbx lO
    go_upto_region 4 with fail
    have hKS : Keeps (fun w' : World => Sl w' a0 len0 cap0 l ∧ Box w' gO 40 O) := fun w w' h b => ⟨h.1.after b, h.2.after b⟩
    refine wp_region_U (w := v3) (fun w' : World => Sl w' a0 len0 cap0 l ∧ Box w' gO 40 O) rfl ⟨hs3.drew, hO3.drew⟩ ?_
    refine wpU_val 0 hKS rfl (by kernel_rfl) (by kernel_rfl) (by kernel_rfl) rfl (fun _ _ _ _ h => h) (.slice (some ⟨gO, 0, none⟩) 32 32) (fun w' h => by simp [go_sem]) ?_
    simp only [Act.put, List.setIfInBounds_toArray, List.set_cons_zero, List.set_cons_succ]
    refine wpU_val 1 hKS rfl (by kernel_rfl) (by kernel_rfl) (by kernel_rfl) rfl (fun _ _ _ _ h => h) (.string ⟨d.toArray⟩) (fun w' h => by simp [go_sem, conv_sl (HSL.out _ _ h.2)]) ?_
    simp only [Act.put, List.setIfInBounds_toArray, List.set_cons_zero, List.set_cons_succ]
    refine wpU_val 2 hKS rfl (by kernel_rfl) (by kernel_rfl) (by kernel_rfl) rfl (fun _ _ _ _ h => h) (.slice a0 len0 cap0) (fun w' h => by simp [go_sem]) ?_
    simp only [Act.put, List.setIfInBounds_toArray, List.set_cons_zero, List.set_cons_succ]
    refine wpU_one 3 rfl (by kernel_rfl) rfl ?_
    intro v4 b4 sS
    refine wp_callR 28 #[.slice a0 len0 cap0] (by simp [go_sem]) _ (HRR.out _ sS.1) ?_
    rintro e v5 ⟨a2, c2, rfl, hs2, hb⟩
    refine ⟨_, rfl, hKS _ _ sS hb, ?_⟩
    simp only [Act.put, List.setIfInBounds_toArray, List.set_cons_zero, List.set_cons_succ]
    have HC2 := Lib.hid (fun w' (b : Below v5.heap.size v5 w') => conv_sl (hs2.after b))
    rw [HDL.out] at HC2 ⊢
    refine wpU_oneval 4 rfl (by kernel_rfl) rfl (.string ⟨d.toArray⟩) (fun w1 b1 s1 => by simp [go_sem, HC2.out w1 b1]) ?_
    simp only [Act.put, List.setIfInBounds_toArray, List.set_cons_zero, List.set_cons_succ]
    refine wpU_val 5 hKS rfl (by kernel_rfl) (by kernel_rfl) (by kernel_rfl) rfl (fun _ _ _ _ h => h) (.bool true) (fun w' h => by simp [go_sem]) ?_
    simp only [Act.put, List.setIfInBounds_toArray, List.set_cons_zero, List.set_cons_succ]
    refine wpU_val 6 hKS rfl (by kernel_rfl) (by kernel_rfl) (by kernel_rfl) rfl (fun _ _ _ _ h => h) (.bool true) (fun w' h => by simp [go_sem]) ?_
    simp only [Act.put, List.setIfInBounds_toArray, List.set_cons_zero, List.set_cons_succ]
    refine wpU_val 7 hKS rfl (by kernel_rfl) (by kernel_rfl) (by kernel_rfl) rfl (fun _ _ _ _ h => h) (.slice a0 len0 cap0) (fun w' h => by simp [go_sem]) ?_
    simp only [Act.put, List.setIfInBounds_toArray, List.set_cons_zero, List.set_cons_succ]
    refine wpU_callS 8 hKS rfl (by kernel_rfl) (by kernel_rfl) (by kernel_rfl) rfl (fun _ _ _ _ h => h) 29 #[.slice a0 len0 cap0] (fun w => by simp [go_sem]) _ (fun w' h => HM.out _ h.1) ?_
    simp only [Act.put, List.setIfInBounds_toArray, List.set_cons_zero, List.set_cons_succ]
    refine wpU_val 9 hKS rfl (by kernel_rfl) (by kernel_rfl) (by kernel_rfl) rfl (fun _ _ _ _ h => h) (.slice a0 len0 cap0) (fun w' h => by simp [go_sem]) ?_
    simp only [Act.put, List.setIfInBounds_toArray, List.set_cons_zero, List.set_cons_succ]
    refine wpU_callS 10 hKS rfl (by kernel_rfl) (by kernel_rfl) (by kernel_rfl) rfl (fun _ _ _ _ h => h) 30 #[.slice a0 len0 cap0] (fun w => by simp [go_sem]) _ (fun w' h => HRM.out _ h.1) ?_
    simp only [Act.put, List.setIfInBounds_toArray, List.set_cons_zero, List.set_cons_succ]
    refine wpU_val 11 hKS rfl (by kernel_rfl) (by kernel_rfl) (by kernel_rfl) rfl (fun _ _ _ _ h => h) (.bool true) (fun w' h => by simp [go_sem]) ?_
    simp only [Act.put, List.setIfInBounds_toArray, List.set_cons_zero, List.set_cons_succ]
    refine wpU_val 12 hKS rfl (by kernel_rfl) (by kernel_rfl) (by kernel_rfl) rfl (fun _ _ _ _ h => h) (.bool true) (fun w' h => by simp [go_sem]) ?_
    simp only [Act.put, List.setIfInBounds_toArray, List.set_cons_zero, List.set_cons_succ]
    refine wpU_val 13 hKS rfl (by kernel_rfl) (by kernel_rfl) (by kernel_rfl) rfl (fun _ _ _ _ h => h) (.bool true) (fun w' h => by simp [go_sem]) ?_
    simp only [Act.put, List.setIfInBounds_toArray, List.set_cons_zero, List.set_cons_succ]
    refine wpU_val 14 hKS rfl (by kernel_rfl) (by kernel_rfl) (by kernel_rfl) rfl (fun _ _ _ _ h => h) (.slice (some ⟨gO, 0, none⟩) 32 32) (fun w' h => by simp [go_sem]) ?_
    simp only [Act.put, List.setIfInBounds_toArray, List.set_cons_zero, List.set_cons_succ]
    refine wpU_callS 15 hKS rfl (by kernel_rfl) (by kernel_rfl) (by kernel_rfl) rfl (fun _ _ _ _ h => h) 29 #[.slice (some ⟨gO, 0, none⟩) 32 32] (fun w => by simp [go_sem]) _ (fun w' h => by have := may_any _ 32 32 _ w' (HSL.out _ _ h.2); rw [HMT.out] at this; exact this) ?_
    simp only [Act.put, List.setIfInBounds_toArray, List.set_cons_zero, List.set_cons_succ]
    refine wpU_val 16 hKS rfl (by kernel_rfl) (by kernel_rfl) (by kernel_rfl) rfl (fun _ _ _ _ h => h) (.bool true) (fun w' h => by simp [go_sem]) ?_
    simp only [Act.put, List.setIfInBounds_toArray, List.set_cons_zero, List.set_cons_succ]
    refine wpU_val 17 hKS rfl (by kernel_rfl) (by kernel_rfl) (by kernel_rfl) rfl (fun _ _ _ _ h => h) (.bool true) (fun w' h => by simp [go_sem]) ?_
    simp only [Act.put, List.setIfInBounds_toArray, List.set_cons_zero, List.set_cons_succ]
    refine wpU_callS 18 hKS rfl (by kernel_rfl) (by kernel_rfl) (by kernel_rfl) rfl (fun _ _ _ _ h => h) 26 #[] (fun w => by simp [go_sem]) _ (fun w' h => HAW.out _) ?_
    simp only [Act.put, List.setIfInBounds_toArray, List.set_cons_zero, List.set_cons_succ]
    refine wpU_val 19 hKS rfl (by kernel_rfl) (by kernel_rfl) (by kernel_rfl) rfl (fun _ _ _ _ h => h) (.bool true) (fun w' h => by simp [go_sem]) ?_
    simp only [Act.put, List.setIfInBounds_toArray, List.set_cons_zero, List.set_cons_succ]
    refine wpU_val 20 hKS rfl (by kernel_rfl) (by kernel_rfl) (by kernel_rfl) rfl (fun _ _ _ _ h => h) (.bool true) (fun w' h => by simp [go_sem]) ?_
    simp only [Act.put, List.setIfInBounds_toArray, List.set_cons_zero, List.set_cons_succ]
    refine wpU_done (by kernel_rfl) ?_
    intro v9 b9 s9
    have hB : Below w.heap.size w v9 := ((hB0.drew.trans (b4.mono hB0.size)).trans (hb.mono (Nat.le_trans hB0.size b4.size))).trans (b9.mono (Nat.le_trans hB0.size (Nat.le_trans b4.size hb.size)))
    clear s9 sS hs2 HC2 hb b4 b9 hs3 hO3 hKS hB0
    go_wp2_with fail
    go_ret
    exact ⟨rfl, hB⟩
end Go.Proofs.Ytddgkoheihlbdaa

/- DateClock: the walk. -/
import Derived.Test.YteekdcdjkiclhaaDateLaws
import Derived.StillTailTactics
import Derived.Lib.IndexBytes
namespace Go.Proofs.Yteekdcdjkiclhaa
open Go.RowKit

theorem wpStill_skip {P : Program} {ops : Array Oper} {w : World} {Q : Act → Prop} {a a' : Act} {o : Oper} {rest : List Oper} (hw : Region.wanted o (yielded ops a.tmps) = false)
    (ha : a.put o.dst undef = a') (h : wpStill P ops w Q rest a') : wpStill P ops w Q (o :: rest) a :=
  wpStill_step fun K hK => by rw [if_neg (by rw [hw]; simp), ha]; exact hK _ h

attribute [local irreducible] wpStill

set_option maxHeartbeats 1500000 in
theorem DateClock_walk (a0 : Option Addr) (len0 cap0 : Nat) (z0 : List Int) (w : World) (w0 : IsRow .u8 w a0 len0 cap0 z0) :
    Calls Try.prog 6 #[.slice a0 len0 cap0] w fun e w' => e = .returned (.bool true) ∧ Below w.heap.size w w' := by
  obtain ⟨l0, s0⟩ := w0.sl
  clear w0
  by_cases h100 : (100 : Int) < len0
  · go_enter Try.func6, Try.ntmps6
    go_wp2_with fail
    refine (awake_any _).mono ?_
    rintro e w1 ⟨rfl, hb⟩
    go_wp2_with fail
    go_ret
    exact ⟨rfl, hb⟩
  · replace h100 : (len0 : Int) ≤ 100 := by omega
    cases o0 : dateOk l0 with
    | false =>
      have q := Lib.hid o0
      clear o0
      go_enter Try.func6, Try.ntmps6
      go_wp2_with fail
      refine (get_any _ _ _ _ _ s0 s0.len_le).mono ?_
      rintro e w1 ⟨rfl, hb1⟩
      rw [q.out]
      go_wp2_with fail
      refine (awake_any _).mono ?_
      rintro e w3 ⟨rfl, hb3⟩
      go_wp2_with fail
      go_ret
      exact ⟨rfl, hb1.trans (hb3.mono hb1.size)⟩
    | true =>
      obtain ⟨y, m, d, r, hF, hv0⟩ := date_of l0 o0
      have hl0 : l0.length = 19 := by rw [hF.1]; rfl
      obtain rfl : len0 = 19 := by rw [s0.1, hl0]
      have hr : r < 86400 := hF.2.2.2.2.2.2
      have hdrop : l0.drop 11 = [digC (r / 3600) 1, digC (r / 3600) 0, 58, digC (r / 60 % 60) 1, digC (r / 60 % 60) 0, 58, digC (r % 60) 1, digC (r % 60) 0] := by rw [hF.1, drop_fmt]
      obtain ⟨ck1, ck2⟩ := clock_fmt r hr
      rw [← hdrop] at ck1 ck2
      have hcv : clockV (l0.drop 11) = (r : Int) := by unfold clockV; rw [if_pos ck1, ck2]
      have hbd : 0 ≤ dateV l0 ∧ dateV l0 < 315569520000 := by
        rw [hv0]
        have h1 := cum_bd (y : Nat) m
        have h2 := cum_le (y : Nat) m (by have := hF.2.2.2.1; omega)
        rw [if_neg (by have := hF.2.2.2.1; omega)] at h2
        have h3 := dby_succ (y : Nat)
        have h4 := dby_mono ((y : Nat) + 1) 10000 (by have := hF.2.1; omega)
        have h5 := dby_max
        have h6 := dby_bd (y : Nat) (by omega) (by have := hF.2.1; omega)
        obtain ⟨_, b1, b2, b3, b4, b5, b6⟩ := hF
        omega
      have hmod : dateV l0 % 86400 = (r : Int) := by rw [hv0]; omega
      obtain ⟨X, hX⟩ : ∃ X, X = dateV l0 := ⟨_, rfl⟩
      rw [← hX] at hbd hmod
      obtain ⟨hb0, hb01⟩ := hbd
      have HX := Lib.hid hX
      have q0 := Lib.hid o0
      have CK := Lib.hid ck1
      have CV := Lib.hid hcv
      have HD := Lib.hid hdrop
      have HM := Lib.hid hmod
      obtain ⟨b, o, rfl, _, _⟩ := s0.some (by omega)
      have hcap := s0.2.1
      have HS := Lib.hid s0
      have u1 : X.tmod 86400 = (r : Int) := by rw [Int.tmod_eq_emod_of_nonneg hb0]; exact hmod
      have u2 : IntKind.i64.wrap (r : Int) = (r : Int) := by rw [IntKind.wrap_i64]; omega
      have u3 : IntKind.i64.wrap (X + 86400) = X + 86400 := by rw [IntKind.wrap_i64]; omega
      have u4 : ((r : Int) == (r : Int)) = true := by simp
      clear o0 hF hv0 hl0 hX ck1 ck2 hcv hdrop hmod s0
      have W1 := Lib.hid u1
      have W2 := Lib.hid u2
      have W3 := Lib.hid u3
      have W4 := Lib.hid u4
      clear u1 u2 u3 u4
      by_cases hmax : X + 86400 < 315569520000
      · go_enter Try.func6, Try.ntmps6
        go_wp2_with fail
        refine (get_any _ _ _ _ _ HS.out HS.out.len_le).mono ?_
        rintro e w1 ⟨rfl, hb1⟩
        rw [q0.out, ← HX.out]
        have tt := (HS.out.after hb1).sub 11 19 (by omega) (by omega)
        rw [List.take_of_length_le (by have := HS.out.1; simp; omega)] at tt
        have TT := Lib.hid tt
        clear tt
        go_wp2_with fail
        refine (clock_any _ _ _ _ _ TT.out TT.out.len_le).mono ?_
        rintro e w2 ⟨rfl, hb2⟩
        rw [CK.out, CV.out]
        have hW2 := hb1.trans (hb2.mono hb1.size)
        go_wp2_with fail
        refine (Put_yes (X + 86400) _ (by omega) hmax).mono ?_
        rintro e w3 ⟨y2, m2, d2, r2, rfl, b1, b2, b3, b4, b5, b6, hnum, hb3⟩
        have hW3 := hW2.trans (hb3.mono hW2.size)
        have hF : Fld (fmtD y2 m2 d2 r2) y2 m2 d2 r2 := ⟨rfl, b1, b2, b3, b4, b5, b6⟩
        have HO := Lib.hid (date_fmt y2 m2 d2 r2 hF).1
        have HV := Lib.hid (show dateV (fmtD y2 m2 d2 r2) = X + 86400 by rw [dateV_fmt _ _ _ _ hF, hnum]; rfl)
        have H19 := Lib.hid (show (fmtD y2 m2 d2 r2).length = 19 from rfl)
        have er : r2 = r := by have := HM.out; omega
        have HDR := Lib.hid (show (fmtD y2 m2 d2 r2).drop 11 = l0.drop 11 by rw [drop_fmt, er, HD.out])
        obtain ⟨T, hT⟩ : ∃ T, T = fmtD y2 m2 d2 r2 := ⟨_, rfl⟩
        rw [← hT] at HO HV H19 HDR ⊢
        clear hT hF hnum b1 b2 b3 b4 b5 b6 er
        obtain ⟨c, w4, hrun, hB4, hc1, hc2, hb4⟩ := conv_str w3 ⟨T.toArray⟩ (by have := H19.out; simp [ByteArray.size]; omega)
        have hS := hB4.sl c (by have := H19.out; simp [ByteArray.size] at hc1; simpa using hc1) hc2
        rw [show (ByteArray.mk T.toArray).size = T.length by simp [ByteArray.size]] at hrun
        have hS' : Sl w4 (some ⟨w3.heap.size, 0, none⟩) T.length c T := hS
        have hW4 := hW3.trans (hb4.mono hW3.size)
        clear hB4 hc1 hc2 hS
        go_wp2_with fail
        refine (refGet_any _ _ _ _ _ hS' hS'.len_le).mono ?_
        rintro e w5 ⟨rfl, hb5⟩
        have hW5 := hW4.trans (hb5.mono hW4.size)
        rw [HO.out, HV.out]
        have hbT := (hb2.trans (hb3.mono hb2.size)).trans (hb4.mono (Nat.le_trans hb2.size hb3.size))
        have TT5 := TT.out.after (hbT.trans (hb5.mono hbT.size))
        have ccq := conv_sl (show Sl w5.drew _ _ _ _ from TT5)
        clear hbT TT5
        have u1 := W1.out
        have u2 := W2.out
        have u3 := W3.out
        have u4 := W4.out
        have u5 : (X + 86400 == X + 86400) = true := by simp
        have u6 : (11 : Int) ≤ 19 := by omega
        clear hrun
        have hT19 := H19.out
        have hne : ¬ cap0 = 11 := by omega
        have hext : (ByteArray.mk T.toArray).extract 11 19 = ⟨(l0.drop 11).toArray⟩ := by
          have : ((ByteArray.mk T.toArray).extract 11 19).data.toList = l0.drop 11 := by
            rw [Lib.extract_data, ← HDR.out]
            exact List.take_of_length_le (by simp; omega)
          apply ByteArray.ext
          rw [← this]
        have ccd : (convert 22 9 (.slice (some ⟨b, o + 11, none⟩) 8 (cap0 - 11))).run Try.prog w5.drew = .ok (.string ⟨(l0.drop 11).toArray⟩) w5.drew := ccq
        have hll : (l0.drop 11 == l0.drop 11) = true := by simp
        go_wp2_with fail
        clear ccq
        go_still_tail 36, (by kernel_rfl)
        change wpList _ _ _ _ _ w5.drew
        clear ccd
        go_wp2_with fail
        refine (awake_any _).mono ?_
        rintro e w6 ⟨rfl, hb6⟩
        go_wp2_with fail
        go_ret
        exact ⟨rfl, hW5.drew.trans (hb6.mono hW5.size)⟩
      · have hmax' : 315569520000 ≤ X + 86400 := by omega
        have hdec := Lib.hid (show decide (X + 86400 < 315569520000) = false by simp; omega)
        go_enter Try.func6, Try.ntmps6
        go_wp2_with fail
        refine (get_any _ _ _ _ _ HS.out HS.out.len_le).mono ?_
        rintro e w1 ⟨rfl, hb1⟩
        rw [q0.out, ← HX.out]
        have tt := (HS.out.after hb1).sub 11 19 (by omega) (by omega)
        rw [List.take_of_length_le (by have := HS.out.1; simp; omega)] at tt
        have TT := Lib.hid tt
        clear tt
        go_wp2_with fail
        refine (clock_any _ _ _ _ _ TT.out TT.out.len_le).mono ?_
        rintro e w2 ⟨rfl, hb2⟩
        rw [CK.out, CV.out]
        have hW2 := hb1.trans (hb2.mono hb1.size)
        go_wp2_with fail
        refine (Put_no (X + 86400) _ (.inr hmax')).mono ?_
        rintro e w3 ⟨rfl, hw⟩
        subst hw
        obtain ⟨c, w4, hrun, hB4, hc1, hc2, hb4⟩ := conv_str w3 ⟨#[]⟩ (by simp [ByteArray.size])
        have hS : Sl w4 (some ⟨w3.heap.size, 0, none⟩) 0 c [] := hB4.sl c (Nat.zero_le _) hc2
        replace hrun : (convert 9 22 (.string ⟨#[]⟩)).run Try.prog w3 = .ok (.slice (some ⟨w3.heap.size, 0, none⟩) 0 c) w4 := hrun
        have hW4 := hW2.trans (hb4.mono hW2.size)
        clear hB4 hc1 hc2
        go_wp2_with fail
        refine (refGet_any _ _ _ _ _ hS hS.len_le).mono ?_
        rintro e w5 ⟨rfl, hb5⟩
        rw [show dateV [] = 0 from rfl, show dateOk [] = false from rfl]
        have hW5 := hW4.trans (hb5.mono hW4.size)
        have u5 := hdec.out
        have u1 := W1.out
        have u2 := W2.out
        have u3 := W3.out
        have u4 := W4.out
        clear hrun
        go_wp2_with fail
        refine wp_region_still_tail 36 (by kernel_rfl) (by kernel_rfl) ?_
        simp only [List.take_succ_cons, List.take_zero, List.drop_succ_cons, List.drop_zero]
        iterate 17 still_step
        refine wpStill_step (fun K hK => ?_)
        go_simp
        refine hK _ (wpStill_skip (by kernel_rfl) rfl (wpStill_skip (by kernel_rfl) rfl (wpStill_skip (by kernel_rfl) rfl (wpStill_skip (by kernel_rfl) rfl (wpStill_skip (by kernel_rfl) rfl (wpStill_skip (by kernel_rfl) rfl (wpStill_skip (by kernel_rfl) rfl (wpStill_skip (by kernel_rfl) rfl (wpStill_skip (by kernel_rfl) rfl (wpStill_skip (by kernel_rfl) rfl (wpStill_skip (by kernel_rfl) rfl (wpStill_skip (by kernel_rfl) rfl (wpStill_skip (by kernel_rfl) rfl (wpStill_skip (by kernel_rfl) rfl (wpStill_skip (by kernel_rfl) rfl ?_)))))))))))))))
        clear hK K
        repeat still_step
        refine wpStill_nil ?_
        change wpList _ _ _ _ _ w5.drew
        go_wp2_with fail
        refine (awake_any _).mono ?_
        rintro e w6 ⟨rfl, hb6⟩
        go_wp2_with fail
        go_ret
        exact ⟨rfl, hW5.drew.trans (hb6.mono hW5.size)⟩
end Go.Proofs.Yteekdcdjkiclhaa

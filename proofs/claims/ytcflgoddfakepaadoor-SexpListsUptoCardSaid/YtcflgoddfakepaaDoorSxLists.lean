/- SexpLists: the walk. -/
import Derived.Test.YtcflgoddfakepaaDoorSxOne
namespace Go.Proofs.YtcflgoddfakepaaDoor
open Go.RowKit
set_option linter.unusedSimpArgs false
set_option linter.unusedVariables false

theorem add_str (a b : List UInt8) (h : a.length + b.length ≤ 140737488355328) (w : World) : (binOp .add 9 (.string ⟨a.toArray⟩) (.string ⟨b.toArray⟩)).run Tryd.prog w = .ok (.string ⟨(a ++ b).toArray⟩) w := by
  simp [go_sem]
  try rw [if_neg (by omega)]
  rw [cat_ba]
theorem wide_of (s : Sx) : ∀ m, s.clean = true → s.nodes ≤ 700 → s.form.length ≤ 5000 → s.deep + m ≤ 60 → s.wide m = false := by
  induction s using Sx.ind with
  | h l hh hi da ks ih =>
    intro m hc hn hf hd
    obtain ⟨p1, p2, p3⟩ := clean_parts hc
    have e1 : ∀ x : List UInt8, x.length ≤ (textL x).length := fun x => by simp [textL]; omega
    have hnd : ks.length ≤ Sx.nodesL ks := by
      clear ih hc hn hf hd p1 p2 p3
      induction ks with
      | nil => exact Nat.le_refl _
      | cons k r ihr => have := nodes_pos k; simp only [Sx.nodesL, List.length_cons]; omega
    simp only [Sx.nodes] at hn
    have hlen : hi.length ≤ 5000 ∧ da.length ≤ 5000 ∧ (Sx.formL ks).length ≤ 5000 := by
      rw [form_def] at hf
      have a1 := e1 hi
      have a2 := e1 da
      cases l with
      | true =>
        obtain ⟨_, rfl, rfl⟩ := p1 rfl
        simp only [if_true, List.length_cons, List.length_append, List.length_nil] at hf ⊢
        omega
      | false =>
        obtain ⟨rfl, p4⟩ := p2 rfl
        cases hh with
        | true => simp at hf; simp [Sx.formL]; omega
        | false =>
          obtain rfl := p4 rfl
          simp at hf
          simp [Sx.formL]
          omega
    have hkids : Sx.wideL ks (m + 1) = false := by
      have key : ∀ k ∈ ks, k.wide (m + 1) = false := fun k hk => by
        refine ih k hk (m + 1) (p3 k hk) ?_ ?_ ?_
        · have : k.nodes ≤ Sx.nodesL ks := by
            clear ih hc hn hf hd p1 p2 p3 hlen hnd
            induction ks with
            | nil => cases hk
            | cons a r ihr => rcases List.mem_cons.1 hk with rfl | hk
                              · simp only [Sx.nodesL]; omega
                              · have := ihr hk; simp only [Sx.nodesL]; omega
          omega
        · have := Sx.formL_mem hk; omega
        · have := Sx.deepL_mem hk
          cases l with
          | true => simp only [Sx.deep, if_true] at hd; omega
          | false => obtain ⟨rfl, _⟩ := p2 rfl; cases hk
      clear ih hc hn hf hd p1 p2 p3 hlen hnd
      induction ks with
      | nil => rfl
      | cons a r ihr => simp only [Sx.wideL, key a List.mem_cons_self, ihr (fun k hk => key k (List.mem_cons_of_mem _ hk))]; rfl
    rw [wide_def, decide_eq_false (show ¬ 60 < m by omega), decide_eq_false (show ¬ 700 < ks.length by omega), decide_eq_false (show ¬ 5000 < hi.length by omega), decide_eq_false (show ¬ 5000 < da.length by omega), hkids]
    rfl
theorem may_parts {s : Sx} (h : s.may = true) : s.clean = true ∧ s.nodes ≤ 512 ∧ s.deep ≤ 16 ∧ s.form.length ≤ 4096 := by
  simp only [Sx.may, Bool.and_eq_true, decide_eq_true_eq] at h
  exact ⟨h.1.1.1, h.1.1.2, h.1.2, h.2⟩
theorem lists_wide {ks : List Sx} (hl : ks.length ≤ 20) (h : ∀ k ∈ ks, k.may = true) : (Sx.mk true false [] [] ks).wide 0 = false := by
  have hkids : Sx.wideL ks (0 + 1) = false := by
    have key : ∀ k ∈ ks, k.wide (0 + 1) = false := fun k hk => by
      obtain ⟨h1, h2, h3, h4⟩ := may_parts (h k hk)
      exact wide_of k _ h1 (by omega) (by omega) (by omega)
    clear hl h
    induction ks with
    | nil => rfl
    | cons a r ihr => simp only [Sx.wideL, key a List.mem_cons_self, ihr (fun k hk => key k (List.mem_cons_of_mem _ hk))]; rfl
  rw [wide_def, decide_eq_false (show ¬ 60 < 0 by omega), decide_eq_false (show ¬ 700 < ks.length by omega), hkids]
  rfl
theorem lists_nodes {ks : List Sx} (h : ∀ k ∈ ks, k.may = true) : Sx.nodesL ks ≤ 512 * ks.length := by
  induction ks with
  | nil => simp [Sx.nodesL]
  | cons a r ih =>
    have h1 := (may_parts (h a List.mem_cons_self)).2.1
    have h2 := ih (fun k hk => h k (List.mem_cons_of_mem _ hk))
    simp only [Sx.nodesL, List.length_cons]
    omega

set_option maxHeartbeats 16000000 in
set_option maxRecDepth 100000 in
theorem SexpLists_walk (a : Option Addr) (n c : Nat) (K : Nat → SV) (ks : List Sx) (w : World) (htab : Tab w) (hr : RowAt w a n c K) (hn : n = ks.length) (hk : ∀ i (hi : i < ks.length), Rd w (K i) ks[i]) (hb : Sx.nodesL ks < 4611686018427387904) :
    Calls Tryd.prog 4 #[.slice a n c] w fun e w' => e = .returned (.bool true) ∧ Below w.heap.size w w' := by
  have HBN := hb
  clear hb
  have HT := Lib.hid htab
  have HR := Lib.hid hr
  have HK := Lib.hid hk
  have hle := hr.1
  have hcm := hr.2.1
  unfold maxLen at hcm
  clear htab hr hk
  subst hn
  have HB0 : Below w.heap.size w w := Below.refl _ _
  by_cases hmany : 20 < ks.length
  · have hmany' : (20 : Int) < ks.length := by omega
    go_enter Tryd.func4, Tryd.ntmps4
    go_wp2_with fail
    refine (awakeX_any _ (HT.out.after HB0)).mono ?_
    rintro e w9 ⟨rfl, hb9⟩
    have HB9 := HB0.trans (hb9.mono HB0.size)
    clear hb9
    go_wp2_with fail
    go_ret
    exact ⟨rfl, HB9⟩
  have hmany' : ¬ (20 : Int) < ks.length := by omega
  go_enter Tryd.func4, Tryd.ntmps4
  go_wp2_with fail
  go_loopw [3, 4, 5, 6] (fun s i _ _ wr => ∃ n : Nat, n ≤ ks.length ∧ i = .int .i64 n ∧ s = .string ⟨(40 :: Sx.formL (ks.take n)).toArray⟩ ∧ Hid (∀ k ∈ ks.take n, k.may = true) ∧ (Sx.formL (ks.take n)).length ≤ 4096 * n ∧ Below w.heap.size w wr) (fun _ i _ _ _ => ks.length - (intOf i).toNat)
  case atStart => exact ⟨0, Nat.zero_le _, rfl, rfl, Lib.hid (fun k hk => by cases hk), Nat.le_refl _, Below.refl _ _⟩
  case round =>
    obtain ⟨n, hnl, rfl, rfl, HM, hfl, hb⟩ := hrel
    clear HB0
    by_cases hlt : n < ks.length
    · obtain ⟨b, o, rfl, hld⟩ := (HR.out.after hb).range hlt
      have HL := Lib.hid hld
      have hrd := (HK.out n hlt).after hb
      have hsn := Sx.formL_snoc ks n hlt
      have hbn0 := nodesL_take n hlt
      obtain ⟨t, ht⟩ : ∃ t, t = ks[n] := ⟨_, rfl⟩
      rw [← ht] at hrd hsn hbn0
      have HKT := Lib.hid ht
      have HRd := Lib.hid hrd
      have HSN := Lib.hid hsn
      clear ht
      have hbn : t.nodes < 4611686018427387904 := by omega
      obtain ⟨g1, hg1⟩ := letter (t.great 0)
      have HG1 := Lib.hid hg1
      have CG1 := Lib.hid (fun w h => great_any t (K n) 0 w h (by omega))
      rw [← hg1] at CG1
      clear hg1 hld hrd hsn
      go_wp2_with (refine wpList_load_sv rfl _ rfl b _ rfl _ HL.out ?_)
      refine (CG1.out _ HRd.out).mono ?_
      rintro e w1 ⟨rfl, hb1⟩
      have HB1 := hb.trans (hb1.mono hb.size)
      have HR1 := Lib.hid (HRd.out.after hb1)
      have hL1 := (HR.out.after HB1).rangeA hlt
      have HL1 := Lib.hid hL1
      clear hb1 hL1
      cases g1 with
      | true =>
        go_wp2_with fail
        refine (awakeX_any _ (HT.out.after HB1)).mono ?_
        rintro e w9 ⟨rfl, hb9⟩
        have HB9 := HB1.trans (hb9.mono HB1.size)
        clear hb9
        go_wp2_with fail
        go_ret
        exact ⟨rfl, HB9⟩
      | false =>
        obtain ⟨y1, hy1⟩ := letter t.may
        have HY1 := Lib.hid hy1
        have f1 := great_form HG1.out.symm hbn
        have CM1 := Lib.hid (fun w h => refMay_any t (K n) w h hbn f1.1 f1.2)
        rw [← hy1] at CM1
        have HW1 := Lib.hid (great_no HG1.out.symm hbn).1
        clear hy1 f1
        go_wp2_with (refine wpList_value rfl (K n).val (run_load_sv _ rfl b _ rfl _ HL1.out) ?_)
        refine (CM1.out _ HR1.out).mono ?_
        rintro e w2 ⟨rfl, hb2⟩
        have HB2 := HB1.trans (hb2.mono HB1.size)
        have HR2 := Lib.hid (HR1.out.after hb2)
        have hL2 := (HR.out.after HB2).rangeA hlt
        have HL2 := Lib.hid hL2
        clear hb2 hL2
        cases y1 with
        | false =>
          go_wp2_with fail
          refine (awakeX_any _ (HT.out.after HB2)).mono ?_
          rintro e w9 ⟨rfl, hb9⟩
          have HB9 := HB2.trans (hb9.mono HB2.size)
          clear hb9
          go_wp2_with fail
          go_ret
          exact ⟨rfl, HB9⟩
        | true =>
          go_wp2_with (refine wpList_load_sv rfl _ rfl b _ rfl _ HL2.out ?_)
          refine (put_all t (K n) _ HR2.out 0 HW1.out (HT.out.after HB2)).mono ?_
          rintro e w3 (⟨_, q1, rfl, ho1, hb3⟩ | ⟨hno, _⟩)
          case inr => rw [← HY1.out] at hno; cases hno
          obtain ⟨a1, c1, rfl, hs1⟩ := ho1.sl
          have HB3 := HB2.trans (hb3.mono HB2.size)
          have hcv := conv_sl hs1
          have hf4 := (may_parts HY1.out.symm).2.2.2
          have hadd := add_str (40 :: Sx.formL (ks.take n)) t.form (by simp only [List.length_cons]; omega) w3
          obtain ⟨n1, hn1⟩ : ∃ n1, n1 = t.form.length := ⟨_, rfl⟩
          rw [← hn1] at hcv hf4 ⊢
          have hn1' : t.form.length ≤ n1 := Nat.le_of_eq hn1.symm
          clear ho1 hs1 hb3 hn1
          go_wp2_with fail
          go_roundw
          case rel =>
            refine ⟨n + 1, by omega, by go_num, by rw [HSN.out]; rfl, Lib.hid fun k hk => ?_, by rw [HSN.out, List.length_append]; omega, HB3⟩
            rw [List.take_succ_eq_append_getElem hlt, List.mem_append] at hk
            rcases hk with hk | hk
            · exact HM.out k hk
            · rw [List.mem_singleton.1 hk, ← HKT.out]; exact HY1.out.symm
          case measure => simp [intOf]; omega
    · have hnn : n = ks.length := by omega
      subst hnn
      have hM := HM.out
      rw [List.take_length] at hM hfl ⊢
      have HMY := Lib.hid hM
      have HWD := Lib.hid (lists_wide (by omega) hM)
      have hnd := lists_nodes hM
      have HF : Hid ((Sx.mk true false [] [] ks).form = (40 :: Sx.formL ks) ++ [41]) := Lib.hid (by rw [form_def, if_pos rfl]; rfl)
      obtain ⟨F, hF⟩ : ∃ F, F = (40 :: Sx.formL ks) ++ [41] := ⟨_, rfl⟩
      have hFl : F.length ≤ 100000 := by rw [hF]; simp only [List.length_append, List.length_cons, List.length_nil]; omega
      have hcat : ((⟨(40 :: Sx.formL ks).toArray⟩ : ByteArray) ++ ⟨#[41]⟩) = ⟨F.toArray⟩ := by rw [hF]; exact cat_ba (40 :: Sx.formL ks) [41]
      rw [← hF] at HF
      clear hM HM hF
      go_wp2_with fail
      refine (list_any _ _ _ K ks _ (HR.out.after hb) (by omega) rfl (fun i hi => (HK.out i hi).after hb)).mono ?_
      rintro e w1 ⟨v, rfl, hrv, hb1⟩
      have HB1 := hb.trans (hb1.mono hb.size)
      have HV1 := Lib.hid hrv
      clear hrv hb1 hcat
      obtain ⟨vl, vh, p1, pn1, pc1, p2, pn2, pc2, p3, pn3, pc3⟩ := v
      unfold SV.val
      go_upto_region 15 with (refine wpList_store_box (cells := #[.bool vl, .bool vh, .slice p1 pn1 pc1, .slice p2 pn2 pc2, .slice p3 pn3 pc3]) rfl 25 _ _ rfl (Box.new _ _ _) (by rfl) (by rfl) rfl (by kernel_rfl) (by simp [Value.oneCell']) ?_; intro u1 Y1 st1)
      have hbu : Below w1.heap.size w1 u1 := st1.below w1.heap.size w1 (Nat.le_refl _) ((Below.refl _ _).alloc (Nat.le_refl _) _)
      have HB2 := HB1.trans (hbu.mono HB1.size)
      have HV2 := Lib.hid (HV1.out.after hbu)
      have HY := Lib.hid Y1
      clear st1 hbu Y1 HV1
      go_upto_region 15 with fail
      go_wp2_with (refine wpList_load_box rfl 25 _ rfl HY.out (by rfl) Tryd.underlying25 rfl (by kernel_rfl) ?_)
      refine (put_all _ ⟨vl, vh, p1, pn1, pc1, p2, pn2, pc2, p3, pn3, pc3⟩ _ HV2.out 0 HWD.out (HT.out.after HB2)).mono ?_
      obtain ⟨my, hmy⟩ := letter (Sx.mk true false [] [] ks).may
      have HMV := Lib.hid hmy
      have CM : Hid (∀ w', Rd w' ⟨vl, vh, p1, pn1, pc1, p2, pn2, pc2, p3, pn3, pc3⟩ (Sx.mk true false [] [] ks) → Calls Tryd.prog 11 #[.agg #[.bool vl, .bool vh, .slice p1 pn1 pc1, .slice p2 pn2 pc2, .slice p3 pn3 pc3]] w' fun e w'' => e = .returned (.bool my) ∧ Below w'.heap.size w' w'') :=
        Lib.hid fun w' h => by rw [hmy]; exact refMay_any (Sx.mk true false [] [] ks) ⟨vl, vh, p1, pn1, pc1, p2, pn2, pc2, p3, pn3, pc3⟩ w' h (by simp only [Sx.nodes]; omega) (by have := deep_wide _ _ HWD.out; omega) (fun _ => by rw [HF.out]; omega)
      clear hmy
      rintro e w3 (⟨hyes, q1, rfl, ho1, hb3⟩ | ⟨hno, rfl, hb3⟩)
      · rw [← HMV.out] at hyes
        subst hyes
        obtain ⟨a1, c1, rfl, hs1⟩ := ho1.sl
        rw [HF.out] at hs1 ⊢
        have HB3 := HB2.trans (hb3.mono HB2.size)
        have HY3 := Lib.hid (HY.out.after hb3)
        have HS3 := Lib.hid hs1
        have HV3 := Lib.hid (HV2.out.after hb3)
        clear ho1 hs1 hb3
        obtain ⟨n1, hn1⟩ : ∃ n1, n1 = F.length := ⟨_, rfl⟩
        rw [← hn1] at HS3 ⊢
        clear hn1
        go_wp2_with (refine wpList_load_box rfl 25 _ rfl HY3.out (by rfl) Tryd.underlying25 rfl (by kernel_rfl) ?_)
        refine (CM.out _ HV3.out).mono ?_
        rintro e w4 ⟨rfl, hb4⟩
        have HB4 := HB3.trans (hb4.mono HB3.size)
        have hcv := conv_sl (HS3.out.after hb4)
        clear hb4
        go_wp2_with fail
        refine (awakeX_any _ (HT.out.after HB4)).mono ?_
        rintro e w9 ⟨rfl, hb9⟩
        have HB9 := HB4.trans (hb9.mono HB4.size)
        clear hb9
        go_wp2_with fail
        go_ret
        exact ⟨rfl, HB9⟩
      · rw [← HMV.out] at hno
        subst hno
        have HB3 := HB2.trans (hb3.mono HB2.size)
        have HY3 := Lib.hid (HY.out.after hb3)
        have HV3 := Lib.hid (HV2.out.after hb3)
        clear hb3
        go_wp2_with (refine wpList_load_box rfl 25 _ rfl HY3.out (by rfl) Tryd.underlying25 rfl (by kernel_rfl) ?_)
        refine (CM.out _ HV3.out).mono ?_
        rintro e w4 ⟨rfl, hb4⟩
        have HB4 := HB3.trans (hb4.mono HB3.size)
        clear hb4
        go_wp2_with fail
        refine (awakeX_any _ (HT.out.after HB4)).mono ?_
        rintro e w9 ⟨rfl, hb9⟩
        have HB9 := HB4.trans (hb9.mono HB4.size)
        clear hb9
        go_wp2_with fail
        go_ret
        exact ⟨rfl, HB9⟩

end Go.Proofs.YtcflgoddfakepaaDoor

/- SexpCuts: the walk. -/
import Derived.Test.YtcflgoddfakepaaDoorSxReadsMg
namespace Go.Proofs.YtcflgoddfakepaaDoor
open Go.RowKit
set_option linter.unusedSimpArgs false
set_option linter.unusedVariables false

theorem great_wide {s : Sx} (h : s.great 0 = false) : s.wide 0 = false := by
  by_cases e : s.wide 0 = true
  · rw [great_yes e] at h; cases h
  · simpa using e
theorem form_two (s : Sx) : 2 ≤ s.form.length := by
  obtain ⟨l, h, hi, da, ks⟩ := s
  rw [form_def]
  have e : ∀ x : List UInt8, 2 ≤ (textL x).length := fun x => by
    have := (numL_facts x.length).2.2
    simp only [textL_length]
    omega
  cases l with
  | true => simp
  | false =>
    have := e da
    simp only [Bool.false_eq_true, if_false, List.length_append]
    omega

set_option maxHeartbeats 16000000 in
set_option maxRecDepth 100000 in
theorem SexpCuts_walk (v : SV) (s : Sx) (cut : Int) (w : World) (htab : Tab w) (h1 : Rd w v s) (w1 : (Lit.int .i64 cut).wf = true) :
    Calls Tryd.prog 8 #[v.val, .int .i64 cut] w fun e w' => e = .returned (.bool true) ∧ Below w.heap.size w w' := by
  obtain ⟨vl1, vh1, p11, pn11, pc11, p12, pn12, pc12, p13, pn13, pc13⟩ := v
  have HR := Lib.hid h1
  have HT := Lib.hid htab
  have HB0 : Below w.heap.size w (w.alloc (.cells #[.bool vl1, .bool vh1, .slice p11 pn11 pc11, .slice p12 pn12 pc12, .slice p13 pn13 pc13] 25)) := (Below.refl _ _).alloc (Nat.le_refl _) _
  have x0 := Lib.hid (Box.new w 25 #[.bool vl1, .bool vh1, .slice p11 pn11 pc11, .slice p12 pn12 pc12, .slice p13 pn13 pc13])
  obtain ⟨g1, hg1⟩ := letter (s.great 0)
  have HG1 := Lib.hid hg1
  have CG1 := Lib.hid (fun w h => great_any s ⟨vl1, vh1, p11, pn11, pc11, p12, pn12, pc12, p13, pn13, pc13⟩ 0 w h (by omega))
  rw [← hg1] at CG1
  clear hg1 h1 htab
  show Calls _ _ #[.agg #[.bool vl1, .bool vh1, .slice p11 pn11 pc11, .slice p12 pn12 pc12, .slice p13 pn13 pc13], .int .i64 cut] _ _
  go_enter Tryd.func8, Tryd.ntmps8
  go_upto_region 1 with fail
  change Code.wp _ _ _ _ (w.alloc (.cells #[.bool vl1, .bool vh1, .slice p11 pn11 pc11, .slice p12 pn12 pc12, .slice p13 pn13 pc13] 25))
  generalize (w.alloc (.cells #[.bool vl1, .bool vh1, .slice p11 pn11 pc11, .slice p12 pn12 pc12, .slice p13 pn13 pc13] 25)) = w0 at *
  go_wp2_with (refine wpList_load_box rfl 25 _ rfl x0.out (by rfl) Tryd.underlying25 rfl (by kernel_rfl) ?_)
  refine (CG1.out _ (HR.out.after HB0)).mono ?_
  rintro e w1 ⟨rfl, hb1⟩
  have HB1 := HB0.trans (hb1.mono HB0.size)
  have x1 := Lib.hid (x0.out.after hb1)
  clear hb1 x0
  cases g1 with
  | true =>
    go_wp2_with fail
    refine (awakeX_any _ (HT.out.after HB1)).mono ?_
    rintro e w9 ⟨rfl, hb9⟩
    have HB9 := HB1.trans (hb9.mono HB1.size)
    clear hb9
    go_wp2_with fail
    go_ret
    exact ⟨rfl, HB9⟩
  | false =>
    have HW := Lib.hid (great_wide HG1.out.symm)
    go_wp2_with (refine wpList_load_box rfl 25 _ rfl x1.out (by rfl) Tryd.underlying25 rfl (by kernel_rfl) ?_)
    refine (put_all s ⟨vl1, vh1, p11, pn11, pc11, p12, pn12, pc12, p13, pn13, pc13⟩ _ (HR.out.after HB1) 0 HW.out (HT.out.after HB1)).mono ?_
    rintro e w2 (⟨hyes, q1, rfl, ho1, hb2⟩ | ⟨hno, rfl, hb2⟩)
    case inr =>
      have HB2 := HB1.trans (hb2.mono HB1.size)
      clear hb2
      go_wp2_with fail
      refine (awakeX_any _ (HT.out.after HB2)).mono ?_
      rintro e w9 ⟨rfl, hb9⟩
      have HB9 := HB2.trans (hb9.mono HB2.size)
      clear hb9
      go_wp2_with fail
      go_ret
      exact ⟨rfl, HB9⟩
    obtain ⟨a1, c1, rfl, hs1⟩ := ho1.sl
    have HB2 := HB1.trans (hb2.mono HB1.size)
    have HM := Lib.hid hyes
    obtain ⟨F, hF⟩ : ∃ F, F = s.form := ⟨_, rfl⟩
    have HF := Lib.hid hF
    have hf1 : 2 ≤ F.length := by rw [hF]; exact form_two s
    have hf2 : F.length ≤ 4096 := by rw [hF]; exact (may_parts hyes).2.2.2
    rw [← hF] at hs1 ⊢
    have HS := Lib.hid hs1
    clear ho1 hb2 hyes hF hs1
    obtain ⟨n1, hn1⟩ : ∃ n1, n1 = F.length := ⟨_, rfl⟩
    have HN := Lib.hid hn1
    rw [← hn1] at HS hf1 hf2 ⊢
    clear hn1
    have hf3 : (1 : Int) < (n1 : Int) := by omega
    by_cases hc0 : cut < 0
    · go_wp2_with fail
      refine (awakeX_any _ (HT.out.after HB2)).mono ?_
      rintro e w9 ⟨rfl, hb9⟩
      have HB9 := HB2.trans (hb9.mono HB2.size)
      clear hb9
      go_wp2_with fail
      go_ret
      exact ⟨rfl, HB9⟩
    by_cases hc1 : (n1 : Int) ≤ cut
    · go_wp2_with fail
      refine (awakeX_any _ (HT.out.after HB2)).mono ?_
      rintro e w9 ⟨rfl, hb9⟩
      have HB9 := HB2.trans (hb9.mono HB2.size)
      clear hb9
      go_wp2_with fail
      go_ret
      exact ⟨rfl, HB9⟩
    obtain ⟨k, rfl⟩ : ∃ k : Nat, cut = (k : Int) := ⟨cut.toNat, by omega⟩
    have hk : k < n1 := by omega
    have hc2 : (k : Int) < (n1 : Int) := by omega
    have hcc := HS.out.2.1
    have HSK := Lib.hid (HS.out.take k (by omega))
    clear hc0 hc1
    go_wp2_with fail
    refine (get_any _ k c1 (F.take k) _ HSK.out).mono ?_
    rintro e w3 ⟨v2, s2, p, x, hgot, rfl, hr2, hb3⟩
    have hgc : Got (F.take k) Sx.nil k 2 := by rw [HF.out]; exact got_cut HM.out (by rw [← HF.out, ← HN.out]; exact hk)
    obtain ⟨rfl, rfl, rfl⟩ := hgc.det hgot
    obtain ⟨vl2, vh2, p21, pn21, pc21, p22, pn22, pc22, p23, pn23, pc23⟩ := v2
    have HQ2 := Lib.hid (hr2.mono (fun _ _ => trivial) : Rd w3 ⟨vl2, vh2, p21, pn21, pc21, p22, pn22, pc22, p23, pn23, pc23⟩ Sx.nil)
    have HB3 := HB2.trans (hb3.mono HB2.size)
    clear hgot hgc hr2 hb3
    dsimp only
    go_upto_region 7 with ((refine wpList_store_box (cells := #[.bool vl2, .bool vh2, .slice p21 pn21 pc21, .slice p22 pn22 pc22, .slice p23 pn23 pc23]) rfl 25 _ _ rfl (Box.new _ _ _) (by rfl) (by rfl) rfl (by kernel_rfl) (by simp [Value.oneCell']) ?_); intro u1 Y1 st1)
    have HB4 := st1.below w.heap.size w HB3.size (HB3.alloc HB3.size _)
    have b34 := st1.below w3.heap.size w3 (Nat.le_refl _) ((Below.refl _ _).alloc (Nat.le_refl _) _)
    have HP2 := Lib.hid (HQ2.out.after b34)
    have HY := Lib.hid Y1
    clear HB3 HQ2 Y1 st1 b34
    generalize w3.heap.size = y at *
    go_wp2_with (refine wpList_load_box rfl 25 _ rfl HY.out (by rfl) Tryd.underlying25 rfl (by kernel_rfl) ?_)
    refine (refSame_any Sx.nil Sx.nil ⟨vl2, vh2, p21, pn21, pc21, p22, pn22, pc22, p23, pn23, pc23⟩ SV.nil _ HP2.out (rd_nil _ _)).mono ?_
    rintro e w5 ⟨rfl, hb5⟩
    rw [Sx.same_refl]
    have HB5 := HB4.trans (hb5.mono HB4.size)
    clear hb5
    go_wp2_with fail
    refine (awakeX_any _ (HT.out.after HB5)).mono ?_
    rintro e w9 ⟨rfl, hb9⟩
    have HB9 := HB5.trans (hb9.mono HB5.size)
    clear hb9
    go_wp2_with fail
    go_ret
    exact ⟨rfl, HB9⟩

end Go.Proofs.YtcflgoddfakepaaDoor

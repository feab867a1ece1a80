/- SexpMore: the walk. -/
import Derived.Test.YtcflgoddfakepaaDoorSxCutsMg
namespace Go.Proofs.YtcflgoddfakepaaDoor
open Go.RowKit
set_option linter.unusedSimpArgs false
set_option linter.unusedVariables false

set_option maxHeartbeats 16000000 in
set_option maxRecDepth 100000 in
theorem SexpMore_walk (v : SV) (s : Sx) (ax : Option Addr) (nx cx : Nat) (lx : List UInt8) (w : World) (htab : Tab w) (h1 : Rd w v s) (hsx : Sl w ax nx cx lx) :
    Calls Tryd.prog 9 #[v.val, .slice ax nx cx] w fun e w' => e = .returned (.bool true) ∧ Below w.heap.size w w' := by
  obtain ⟨vl1, vh1, p11, pn11, pc11, p12, pn12, pc12, p13, pn13, pc13⟩ := v
  have HR := Lib.hid h1
  have HT := Lib.hid htab
  have HMO := Lib.hid hsx
  clear hsx
  have HB0 : Below w.heap.size w (w.alloc (.cells #[.bool vl1, .bool vh1, .slice p11 pn11 pc11, .slice p12 pn12 pc12, .slice p13 pn13 pc13] 25)) := (Below.refl _ _).alloc (Nat.le_refl _) _
  have x0 := Lib.hid (Box.new w 25 #[.bool vl1, .bool vh1, .slice p11 pn11 pc11, .slice p12 pn12 pc12, .slice p13 pn13 pc13])
  obtain ⟨g1, hg1⟩ := letter (s.great 0)
  have HG1 := Lib.hid hg1
  have CG1 := Lib.hid (fun w h => great_any s ⟨vl1, vh1, p11, pn11, pc11, p12, pn12, pc12, p13, pn13, pc13⟩ 0 w h (by omega))
  rw [← hg1] at CG1
  clear hg1 h1 htab
  show Calls _ _ #[.agg #[.bool vl1, .bool vh1, .slice p11 pn11 pc11, .slice p12 pn12 pc12, .slice p13 pn13 pc13], .slice ax nx cx] _ _
  go_enter Tryd.func9, Tryd.ntmps9
  go_upto_region 1 with fail
  change Code.wp _ _ _ _ (w.alloc (.cells #[.bool vl1, .bool vh1, .slice p11 pn11 pc11, .slice p12 pn12 pc12, .slice p13 pn13 pc13] 25))
  generalize (w.alloc (.cells #[.bool vl1, .bool vh1, .slice p11 pn11 pc11, .slice p12 pn12 pc12, .slice p13 pn13 pc13] 25)) = w0 at *
  by_cases hx0 : nx = 0
  · subst hx0
    go_wp2_with (refine wpList_load_box rfl 25 _ rfl x0.out (by rfl) Tryd.underlying25 rfl (by kernel_rfl) ?_)
    refine (CG1.out _ (HR.out.after HB0)).mono ?_
    rintro e w1 ⟨rfl, hb1⟩
    have HB1 := HB0.trans (hb1.mono HB0.size)
    have x1 := Lib.hid (x0.out.after hb1)
    clear hb1 x0
    cases g1 with
    | true =>
      go_wp2_with fail
      refine (awakeX_any _ (HT.out.after HB1)).mono ?_
      rintro e w9 ⟨rfl, hb9⟩
      have HB9 := HB1.trans (hb9.mono HB1.size)
      clear hb9
      go_wp2_with fail
      go_ret
      exact ⟨rfl, HB9⟩
    | false =>
      go_wp2_with fail
      refine (awakeX_any _ (HT.out.after HB1)).mono ?_
      rintro e w9 ⟨rfl, hb9⟩
      have HB9 := HB1.trans (hb9.mono HB1.size)
      clear hb9
      go_wp2_with fail
      go_ret
      exact ⟨rfl, HB9⟩
  have hx0' : ¬ (nx : Int) = 0 := by omega
  obtain ⟨zx1, zx2⟩ := nat_ne (a := nx) hx0
  by_cases hx1 : 100 < nx
  · have hx1' : (100 : Int) < nx := by omega
    go_wp2_with (refine wpList_load_box rfl 25 _ rfl x0.out (by rfl) Tryd.underlying25 rfl (by kernel_rfl) ?_)
    refine (CG1.out _ (HR.out.after HB0)).mono ?_
    rintro e w1 ⟨rfl, hb1⟩
    have HB1 := HB0.trans (hb1.mono HB0.size)
    have x1 := Lib.hid (x0.out.after hb1)
    clear hb1 x0
    cases g1 with
    | true =>
      go_wp2_with fail
      refine (awakeX_any _ (HT.out.after HB1)).mono ?_
      rintro e w9 ⟨rfl, hb9⟩
      have HB9 := HB1.trans (hb9.mono HB1.size)
      clear hb9
      go_wp2_with fail
      go_ret
      exact ⟨rfl, HB9⟩
    | false =>
      go_wp2_with fail
      refine (awakeX_any _ (HT.out.after HB1)).mono ?_
      rintro e w9 ⟨rfl, hb9⟩
      have HB9 := HB1.trans (hb9.mono HB1.size)
      clear hb9
      go_wp2_with fail
      go_ret
      exact ⟨rfl, HB9⟩
  have hx1' : ¬ (100 : Int) < nx := by omega
  go_wp2_with (refine wpList_load_box rfl 25 _ rfl x0.out (by rfl) Tryd.underlying25 rfl (by kernel_rfl) ?_)
  refine (CG1.out _ (HR.out.after HB0)).mono ?_
  rintro e w1 ⟨rfl, hb1⟩
  have HB1 := HB0.trans (hb1.mono HB0.size)
  have x1 := Lib.hid (x0.out.after hb1)
  clear hb1 x0
  cases g1 with
  | true =>
    go_wp2_with fail
    refine (awakeX_any _ (HT.out.after HB1)).mono ?_
    rintro e w9 ⟨rfl, hb9⟩
    have HB9 := HB1.trans (hb9.mono HB1.size)
    clear hb9
    go_wp2_with fail
    go_ret
    exact ⟨rfl, HB9⟩
  | false =>
    have HW := Lib.hid (great_wide HG1.out.symm)
    go_upto_region 3 with fail
    go_wp2_with (refine wpList_load_box rfl 25 _ rfl x1.out (by rfl) Tryd.underlying25 rfl (by kernel_rfl) ?_)
    refine (put_all s ⟨vl1, vh1, p11, pn11, pc11, p12, pn12, pc12, p13, pn13, pc13⟩ _ (HR.out.after HB1) 0 HW.out (HT.out.after HB1)).mono ?_
    rintro e w2 (⟨hyes, q1, rfl, ho1, hb2⟩ | ⟨hno, rfl, hb2⟩)
    case inr =>
      have HB2 := HB1.trans (hb2.mono HB1.size)
      clear hb2
      go_wp2_with fail
      refine (awakeX_any _ (HT.out.after HB2)).mono ?_
      rintro e w9 ⟨rfl, hb9⟩
      have HB9 := HB2.trans (hb9.mono HB2.size)
      clear hb9
      go_wp2_with fail
      go_ret
      exact ⟨rfl, HB9⟩
    obtain ⟨a1, c1, rfl, hs1⟩ := ho1.sl
    have HB2 := HB1.trans (hb2.mono HB1.size)
    have HM := Lib.hid hyes
    obtain ⟨F, hF⟩ : ∃ F, F = s.form := ⟨_, rfl⟩
    have HF := Lib.hid hF
    have hf2 : F.length ≤ 4096 := by rw [hF]; exact (may_parts hyes).2.2.2
    rw [← hF] at hs1 ⊢
    have HS := Lib.hid hs1
    clear ho1 hb2 hyes hF hs1
    obtain ⟨n1, hn1⟩ : ∃ n1, n1 = F.length := ⟨_, rfl⟩
    have HN := Lib.hid hn1
    rw [← hn1] at HS hf2 ⊢
    clear hn1
    by_cases hsum : 4096 < n1 + nx
    · have hsum' : (4096 : Int) < (n1 : Int) + (nx : Int) := by omega
      go_wp2_with fail
      refine (awakeX_any _ (HT.out.after HB2)).mono ?_
      rintro e w9 ⟨rfl, hb9⟩
      have HB9 := HB2.trans (hb9.mono HB2.size)
      clear hb9
      go_wp2_with fail
      go_ret
      exact ⟨rfl, HB9⟩
    have hsum' : ¬ (4096 : Int) < (n1 : Int) + (nx : Int) := by omega
    have b20 : Below w2.heap.size w2 (w2.alloc (.cells #[] 5)) := (Below.refl _ _).alloc (Nat.le_refl _) _
    have HO0 : Hid (OwnB (w2.alloc (.cells #[] 5)) w2.heap.size (.slice (some ⟨w2.heap.size, 0, none⟩) 0 0) []) := Lib.hid (OwnG.new w2 w2.heap.size 1 (Nat.le_refl _) #[] 5 0 0 (Nat.le_refl _) (Nat.zero_le _) rfl)
    have HS0 := Lib.hid (HS.out.after b20)
    have HNX : Hid (nx = lx.length) := Lib.hid HMO.out.1
    have HL : Hid ((F ++ lx).length = n1 + nx) := Lib.hid (by rw [List.length_append, ← HN.out, ← HNX.out])
    go_wp2_with first | (refine wpList_append_B rfl _ _ rfl rfl HO0.out rfl HS0.out (by simp only [List.length_nil]; omega) (by simp) ?_; intro va wa hoa hga; rw [List.nil_append] at hoa; have HOA := Lib.hid hoa; have bwa := Lib.hid (b20.grown hga (by simp) (fun k hk => by cases hk; exact Nat.le_refl _)); clear HO0 HS0 hoa hga) | (refine wpList_append_B rfl _ _ rfl rfl HOA.out rfl ((HMO.out.after HB2).after bwa.out) (by have := HN.out; omega) bwa.out.size ?_; intro vb wb hob hgb; have bwb := Lib.hid (bwa.out.grown hgb bwa.out.size (fun k hk => (HOA.out.own k hk).1)); obtain ⟨ab, cb, rfl, hsb⟩ := hob.sl; rw [HL.out] at hsb ⊢; have HSB := Lib.hid hsb; clear hob hgb hsb)
    refine (get_any ab _ cb (F ++ lx) _ HSB.out).mono ?_
    rintro e w3 ⟨v2, s2, p, x, hgot, rfl, hr2, hb3⟩
    have hgc : Got (F ++ lx) Sx.nil n1 5 := by
      rw [HN.out, HF.out]
      refine got_more HM.out (fun e => ?_) ?_
      · have := HNX.out; rw [e] at this; simp at this; omega
      · rw [← HF.out, ← HN.out, ← HNX.out]; omega
    obtain ⟨rfl, rfl, rfl⟩ := hgc.det hgot
    obtain ⟨vl2, vh2, p21, pn21, pc21, p22, pn22, pc22, p23, pn23, pc23⟩ := v2
    have HQ2 := Lib.hid (hr2.mono (fun _ _ => trivial) : Rd w3 ⟨vl2, vh2, p21, pn21, pc21, p22, pn22, pc22, p23, pn23, pc23⟩ Sx.nil)
    have HB3 := HB2.trans ((bwb.out.trans (hb3.mono bwb.out.size)).mono HB2.size)
    clear hgot hgc hr2 hb3 HOA bwa bwb HSB HL HNX b20
    dsimp only
    go_upto_region 7 with ((refine wpList_store_box (cells := #[.bool vl2, .bool vh2, .slice p21 pn21 pc21, .slice p22 pn22 pc22, .slice p23 pn23 pc23]) rfl 25 _ _ rfl (Box.new _ _ _) (by rfl) (by rfl) rfl (by kernel_rfl) (by simp [Value.oneCell']) ?_); intro u1 Y1 st1)
    have HB4 := st1.below w.heap.size w HB3.size (HB3.alloc HB3.size _)
    have b34 := st1.below w3.heap.size w3 (Nat.le_refl _) ((Below.refl _ _).alloc (Nat.le_refl _) _)
    have HP2 := Lib.hid (HQ2.out.after b34)
    have HY := Lib.hid Y1
    clear HB3 HQ2 Y1 st1 b34
    generalize w3.heap.size = y at *
    go_wp2_with (refine wpList_load_box rfl 25 _ rfl HY.out (by rfl) Tryd.underlying25 rfl (by kernel_rfl) ?_)
    refine (refSame_any Sx.nil Sx.nil ⟨vl2, vh2, p21, pn21, pc21, p22, pn22, pc22, p23, pn23, pc23⟩ SV.nil _ HP2.out (rd_nil _ _)).mono ?_
    rintro e w5 ⟨rfl, hb5⟩
    rw [Sx.same_refl]
    have HB5 := HB4.trans (hb5.mono HB4.size)
    clear hb5
    go_wp2_with fail
    refine (awakeX_any _ (HT.out.after HB5)).mono ?_
    rintro e w9 ⟨rfl, hb9⟩
    have HB9 := HB5.trans (hb9.mono HB5.size)
    clear hb9
    go_wp2_with fail
    go_ret
    exact ⟨rfl, HB9⟩

end Go.Proofs.YtcflgoddfakepaaDoor

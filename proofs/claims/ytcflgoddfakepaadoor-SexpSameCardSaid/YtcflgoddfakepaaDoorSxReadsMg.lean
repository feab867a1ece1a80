/- SexpReads: the walk. -/
import Derived.Test.YtcflgoddfakepaaDoorSxG7
namespace Go.Proofs.YtcflgoddfakepaaDoor
open Go.RowKit
set_option linter.unusedSimpArgs false
set_option linter.unusedVariables false

set_option maxHeartbeats 16000000 in
set_option maxRecDepth 100000 in
theorem SexpReads_walk (a : Option Addr) (n c : Nat) (l : List UInt8) (w : World) (htab : Tab w) (hs : Sl w a n c l) :
    Calls Tryd.prog 7 #[.slice a n c] w fun e w' => e = .returned (.bool true) ∧ Below w.heap.size w w' := by
  have HS := Lib.hid hs
  have HT := Lib.hid htab
  have hl : n = l.length := hs.1
  have HL := Lib.hid hl
  clear hs htab hl
  have HB0 : Below w.heap.size w w := Below.refl _ _
  by_cases hbig : 5000 < n
  · have hbig' : (5000 : Int) < n := by omega
    go_enter Tryd.func7, Tryd.ntmps7
    go_wp2_with fail
    refine (awakeX_any _ (HT.out.after HB0)).mono ?_
    rintro e w9 ⟨rfl, hb9⟩
    have HB9 := HB0.trans (hb9.mono HB0.size)
    clear hb9
    go_wp2_with fail
    go_ret
    exact ⟨rfl, HB9⟩
  have hbig' : ¬ (5000 : Int) < n := by omega
  go_enter Tryd.func7, Tryd.ntmps7
  go_wp2_with fail
  refine (get_any a n c l _ HS.out).mono ?_
  rintro e w1 ⟨v1, s, p, x, hgot, rfl, hr1, hb1⟩
  obtain ⟨vl1, vh1, p11, pn11, pc11, p12, pn12, pc12, p13, pn13, pc13⟩ := v1
  have HGOT := Lib.hid hgot
  have HR1 := Lib.hid (hr1.mono (fun _ _ => trivial) : Rd w1 ⟨vl1, vh1, p11, pn11, pc11, p12, pn12, pc12, p13, pn13, pc13⟩ s)
  have HB1 := HB0.trans (hb1.mono HB0.size)
  clear hgot hr1 hb1
  dsimp only
  go_upto_region 4 with ((refine wpList_store_box (cells := #[.bool vl1, .bool vh1, .slice p11 pn11 pc11, .slice p12 pn12 pc12, .slice p13 pn13 pc13]) rfl 25 _ _ rfl (Box.new _ _ _) (by rfl) (by rfl) rfl (by kernel_rfl) (by simp [Value.oneCell']) ?_); intro u1 Y1 st1)
  have B1 := st1.below w.heap.size w HB1.size (HB1.alloc HB1.size _)
  have b12 := st1.below w1.heap.size w1 (Nat.le_refl _) ((Below.refl _ _).alloc (Nat.le_refl _) _)
  have HR2 := Lib.hid (HR1.out.after b12)
  clear HB1 HR1 st1 b12
  have hz1 := Y1.lt
  have hw1 := B1.size
  generalize w1.heap.size = g1 at *
  go_wp2_with fail
  refine (refGet_any (fun k => k < w.heap.size) a n c l _ (HS.out.after B1) (HS.out.inB) (fun k hk => Nat.lt_of_lt_of_le hk hw1)).mono ?_
  rintro e w2 ⟨v2, s2, p2, x2, hgot2, rfl, hr2, hb2⟩
  obtain ⟨rfl, rfl, rfl⟩ := HGOT.out.det hgot2
  clear hgot2
  obtain ⟨vl2, vh2, p21, pn21, pc21, p22, pn22, pc22, p23, pn23, pc23⟩ := v2
  have HQ1 := Lib.hid (HR2.out.after hb2)
  have HQ2 := Lib.hid (hr2.mono (fun _ _ => trivial) : Rd w2 ⟨vl2, vh2, p21, pn21, pc21, p22, pn22, pc22, p23, pn23, pc23⟩ s)
  have HB2 := B1.trans (hb2.mono B1.size)
  have Y2 := Y1.after hb2
  clear hr2 hb2 B1 Y1 HR2
  dsimp only
  go_upto_region 5 with ((refine wpList_store_box (cells := #[.bool vl2, .bool vh2, .slice p21 pn21 pc21, .slice p22 pn22 pc22, .slice p23 pn23 pc23]) rfl 25 _ _ rfl (Box.new _ _ _) (by rfl) (by rfl) rfl (by kernel_rfl) (by simp [Value.oneCell']) ?_); intro u2 Z2 st2)
  have B2 := st2.below w.heap.size w HB2.size (HB2.alloc HB2.size _)
  have b23 := st2.below w2.heap.size w2 (Nat.le_refl _) ((Below.refl _ _).alloc (Nat.le_refl _) _)
  have HP1 := Lib.hid (HQ1.out.after b23)
  have HP2 := Lib.hid (HQ2.out.after b23)
  have HY := Lib.hid (Y2.after b23)
  have HZ := Lib.hid Z2
  clear HB2 HQ1 HQ2 Y2 Z2 st2 b23
  generalize w2.heap.size = g2 at *
  go_wp2_with (first | (refine wpList_load_box rfl 25 _ rfl HY.out (by rfl) Tryd.underlying25 rfl (by kernel_rfl) ?_) | (refine wpList_load_box rfl 25 _ rfl HZ.out (by rfl) Tryd.underlying25 rfl (by kernel_rfl) ?_))
  refine (refSame_any s s ⟨vl1, vh1, p11, pn11, pc11, p12, pn12, pc12, p13, pn13, pc13⟩ ⟨vl2, vh2, p21, pn21, pc21, p22, pn22, pc22, p23, pn23, pc23⟩ _ HP1.out HP2.out).mono ?_
  rintro e w3 ⟨rfl, hb3⟩
  rw [Sx.same_refl]
  have B3 := B2.trans (hb3.mono B2.size)
  have HY3 := Lib.hid (HY.out.after hb3)
  have HP3 := Lib.hid (HP1.out.after hb3)
  clear hb3 B2 HY HZ HP1 HP2
  by_cases hx : x = 0
  case neg =>
    obtain ⟨z1, z2⟩ := nat_ne hx
    go_wp2_with fail
    refine (awakeX_any _ (HT.out.after B3)).mono ?_
    rintro e w9 ⟨rfl, hb9⟩
    have HB9 := B3.trans (hb9.mono B3.size)
    clear hb9
    go_wp2_with fail
    go_ret
    exact ⟨rfl, HB9⟩
  subst hx
  obtain ⟨k1, k2, k3, k4⟩ := got_ok HGOT.out
  have HF := Lib.hid k1
  have HM := Lib.hid k2
  have HW := Lib.hid k3
  clear k1 k2 k3 k4 HGOT
  go_wp2_with (refine wpList_load_box rfl 25 _ rfl HY3.out (by rfl) Tryd.underlying25 rfl (by kernel_rfl) ?_)
  refine (put_all s ⟨vl1, vh1, p11, pn11, pc11, p12, pn12, pc12, p13, pn13, pc13⟩ _ HP3.out 0 HW.out (HT.out.after B3)).mono ?_
  rintro e w4 (⟨_, q1, rfl, ho1, hb4⟩ | ⟨hno, _⟩)
  case inr => rw [HM.out] at hno; cases hno
  obtain ⟨a1, c1, rfl, hs1⟩ := ho1.sl
  rw [HF.out] at hs1 ⊢
  rw [← HL.out] at hs1 ⊢
  have B4 := B3.trans (hb4.mono B3.size)
  have HY4 := Lib.hid (HY3.out.after hb4)
  have HP4 := Lib.hid (HP3.out.after hb4)
  have hcv1 := conv_sl hs1
  have hcv2 := conv_sl (HS.out.after B4)
  obtain ⟨m1, m2, m3, m4⟩ := may_parts HM.out
  have CM := Lib.hid (fun w' (hr : Rd w' ⟨vl1, vh1, p11, pn11, pc11, p12, pn12, pc12, p13, pn13, pc13⟩ s) => refMay_any s ⟨vl1, vh1, p11, pn11, pc11, p12, pn12, pc12, p13, pn13, pc13⟩ w' hr (by omega) (by omega) (fun _ => by omega))
  clear hs1 ho1 hb4 B3 HY3 HP3 m1 m2 m3 m4
  go_wp2_with (refine wpList_load_box rfl 25 _ rfl HY4.out (by rfl) Tryd.underlying25 rfl (by kernel_rfl) ?_)
  refine (CM.out _ HP4.out).mono ?_
  rintro e w5 ⟨rfl, hb5⟩
  rw [HM.out]
  have B5 := B4.trans (hb5.mono B4.size)
  clear hb5 hcv1 hcv2
  go_wp2_with fail
  refine (awakeX_any _ (HT.out.after B5)).mono ?_
  rintro e w9 ⟨rfl, hb9⟩
  have HB9 := B5.trans (hb9.mono B5.size)
  clear hb9
  go_wp2_with fail
  go_ret
  exact ⟨rfl, HB9⟩

end Go.Proofs.YtcflgoddfakepaaDoor

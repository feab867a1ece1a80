/- SexpOne: the walk. -/
import Derived.Test.YtcflgoddfakepaaDoorSxA
import Derived.Test.YtcflgoddfakepaaDoorSxB
namespace Go.Proofs.YtcflgoddfakepaaDoor
open Go.RowKit
set_option linter.unusedSimpArgs false
set_option linter.unusedVariables false

/-- what is not great, and holds not more values than an int counts -/
theorem great_no {s : Sx} (h : s.great 0 = false) (hn : s.nodes < 4611686018427387904) : s.wide 0 = false ∧ s.nodes ≤ 2000 := by
  have hw : s.wide 0 = false := by
    by_cases e : s.wide 0 = true
    · rw [great_yes e] at h; cases h
    · simpa using e
  refine ⟨hw, ?_⟩
  rw [great_zero hw, wrap_of _ (by omega)] at h
  have := of_decide_eq_false h
  omega
theorem great_form {s : Sx} (h : s.great 0 = false) (hn : s.nodes < 4611686018427387904) : s.deep ≤ 4611686018427387904 ∧ (s.nodes ≤ 512 → s.form.length ≤ 70368744177664) := by
  obtain ⟨h1, h2⟩ := great_no h hn
  have := deep_wide s 0 h1
  have := form_wide s 0 h1
  exact ⟨by omega, fun _ => by omega⟩
/-- a test, as a letter -/
theorem letter (b : Bool) : ∃ c, c = b := ⟨b, rfl⟩

set_option maxHeartbeats 16000000 in
set_option maxRecDepth 100000 in
theorem SexpOne_walk (v1 : SV) (s1 : Sx) (v2 : SV) (s2 : Sx) (w : World) (htab : Tab w) (h1 : Rd w v1 s1) (b1 : s1.nodes < 4611686018427387904) (h2 : Rd w v2 s2) (b2 : s2.nodes < 4611686018427387904) :
    Calls Tryd.prog 3 #[v1.val, v2.val] w fun e w' => e = .returned (.bool true) ∧ Below w.heap.size w w' := by
  obtain ⟨vl1, vh1, p11, pn11, pc11, p12, pn12, pc12, p13, pn13, pc13⟩ := v1
  obtain ⟨vl2, vh2, p21, pn21, pc21, p22, pn22, pc22, p23, pn23, pc23⟩ := v2
  have HR1 := Lib.hid h1
  have HR2 := Lib.hid h2
  have HT := Lib.hid htab
  have HB0 : Below w.heap.size w ((w.alloc (.cells #[.bool vl1, .bool vh1, .slice p11 pn11 pc11, .slice p12 pn12 pc12, .slice p13 pn13 pc13] 25)).alloc (.cells #[.bool vl2, .bool vh2, .slice p21 pn21 pc21, .slice p22 pn22 pc22, .slice p23 pn23 pc23] 25)) := ((Below.refl _ _).alloc (Nat.le_refl _) _).alloc (by simp) _
  have x1_0 : Box ((w.alloc (.cells #[.bool vl1, .bool vh1, .slice p11 pn11 pc11, .slice p12 pn12 pc12, .slice p13 pn13 pc13] 25)).alloc (.cells #[.bool vl2, .bool vh2, .slice p21 pn21 pc21, .slice p22 pn22 pc22, .slice p23 pn23 pc23] 25)) w.heap.size 25 #[.bool vl1, .bool vh1, .slice p11 pn11 pc11, .slice p12 pn12 pc12, .slice p13 pn13 pc13] := (Box.new _ _ _).alloc _
  have x2_0 : Box ((w.alloc (.cells #[.bool vl1, .bool vh1, .slice p11 pn11 pc11, .slice p12 pn12 pc12, .slice p13 pn13 pc13] 25)).alloc (.cells #[.bool vl2, .bool vh2, .slice p21 pn21 pc21, .slice p22 pn22 pc22, .slice p23 pn23 pc23] 25)) (w.heap.size + 1) 25 #[.bool vl2, .bool vh2, .slice p21 pn21 pc21, .slice p22 pn22 pc22, .slice p23 pn23 pc23] := by
    have := Box.new (w.alloc (.cells #[.bool vl1, .bool vh1, .slice p11 pn11 pc11, .slice p12 pn12 pc12, .slice p13 pn13 pc13] 25)) 25 #[.bool vl2, .bool vh2, .slice p21 pn21 pc21, .slice p22 pn22 pc22, .slice p23 pn23 pc23]
    simpa using this
  replace x1_0 := Lib.hid x1_0
  replace x2_0 := Lib.hid x2_0
  obtain ⟨g1, hg1⟩ := letter (s1.great 0)
  obtain ⟨g2, hg2⟩ := letter (s2.great 0)
  have HG1 := Lib.hid hg1
  have HG2 := Lib.hid hg2
  have CG1 := Lib.hid (fun w h => great_any s1 ⟨vl1, vh1, p11, pn11, pc11, p12, pn12, pc12, p13, pn13, pc13⟩ 0 w h (by omega))
  have CG2 := Lib.hid (fun w h => great_any s2 ⟨vl2, vh2, p21, pn21, pc21, p22, pn22, pc22, p23, pn23, pc23⟩ 0 w h (by omega))
  rw [← hg1] at CG1
  rw [← hg2] at CG2
  clear hg1 hg2 h1 h2 htab
  show Calls _ _ #[.agg #[.bool vl1, .bool vh1, .slice p11 pn11 pc11, .slice p12 pn12 pc12, .slice p13 pn13 pc13], .agg #[.bool vl2, .bool vh2, .slice p21 pn21 pc21, .slice p22 pn22 pc22, .slice p23 pn23 pc23]] _ _
  go_enter Tryd.func3, Tryd.ntmps3
  go_upto_region 1 with fail
  change Code.wp _ _ _ _ ((w.alloc (.cells #[.bool vl1, .bool vh1, .slice p11 pn11 pc11, .slice p12 pn12 pc12, .slice p13 pn13 pc13] 25)).alloc (.cells #[.bool vl2, .bool vh2, .slice p21 pn21 pc21, .slice p22 pn22 pc22, .slice p23 pn23 pc23] 25))
  generalize ((w.alloc (.cells #[.bool vl1, .bool vh1, .slice p11 pn11 pc11, .slice p12 pn12 pc12, .slice p13 pn13 pc13] 25)).alloc (.cells #[.bool vl2, .bool vh2, .slice p21 pn21 pc21, .slice p22 pn22 pc22, .slice p23 pn23 pc23] 25)) = w0 at *
  go_wp2_with (refine wpList_load_box rfl 25 _ rfl x1_0.out (by rfl) Tryd.underlying25 rfl (by kernel_rfl) ?_)
  refine (CG1.out _ (HR1.out.after HB0)).mono ?_
  rintro e w1 ⟨rfl, hb1⟩
  have HB1 := HB0.trans (hb1.mono HB0.size)
  have x1_1 := Lib.hid (x1_0.out.after hb1)
  have x2_1 := Lib.hid (x2_0.out.after hb1)
  clear hb1
  cases g1 with
  | true =>
    go_wp2_with fail
    refine (awakeX_any _ (HT.out.after HB1)).mono ?_
    rintro e w9 ⟨rfl, hb9⟩
    have HB9 := HB1.trans (hb9.mono HB1.size)
    clear hb9
    go_wp2_with fail
    go_ret
    exact ⟨rfl, HB9⟩
  | false =>
    go_wp2_with (refine wpList_load_box rfl 25 _ rfl x2_1.out (by rfl) Tryd.underlying25 rfl (by kernel_rfl) ?_)
    refine (CG2.out _ (HR2.out.after HB1)).mono ?_
    rintro e w2 ⟨rfl, hb2⟩
    have HB2 := HB1.trans (hb2.mono HB1.size)
    have x1_2 := Lib.hid (x1_1.out.after hb2)
    have x2_2 := Lib.hid (x2_1.out.after hb2)
    clear hb2
    cases g2 with
    | true =>
      go_wp2_with fail
      refine (awakeX_any _ (HT.out.after HB2)).mono ?_
      rintro e w9 ⟨rfl, hb9⟩
      have HB9 := HB2.trans (hb9.mono HB2.size)
      clear hb9
      go_wp2_with fail
      go_ret
      exact ⟨rfl, HB9⟩
    | false =>
      obtain ⟨y1, hy1⟩ := letter s1.may
      obtain ⟨y2, hy2⟩ := letter s2.may
      have HY1 := Lib.hid hy1
      have HY2 := Lib.hid hy2
      have f1 := great_form HG1.out.symm b1
      have f2 := great_form HG2.out.symm b2
      have CM1 := Lib.hid (fun w h => refMay_any s1 ⟨vl1, vh1, p11, pn11, pc11, p12, pn12, pc12, p13, pn13, pc13⟩ w h b1 f1.1 f1.2)
      have CM2 := Lib.hid (fun w h => refMay_any s2 ⟨vl2, vh2, p21, pn21, pc21, p22, pn22, pc22, p23, pn23, pc23⟩ w h b2 f2.1 f2.2)
      rw [← hy1] at CM1
      rw [← hy2] at CM2
      have HW1 := Lib.hid (great_no HG1.out.symm b1).1
      have HW2 := Lib.hid (great_no HG2.out.symm b2).1
      clear hy1 hy2 f1 f2
      go_wp2_with (refine wpList_load_box rfl 25 _ rfl x1_2.out (by rfl) Tryd.underlying25 rfl (by kernel_rfl) ?_)
      refine (CM1.out _ (HR1.out.after HB2)).mono ?_
      rintro e w3 ⟨rfl, hb3⟩
      have HB3 := HB2.trans (hb3.mono HB2.size)
      have x1_3 := Lib.hid (x1_2.out.after hb3)
      have x2_3 := Lib.hid (x2_2.out.after hb3)
      clear hb3
      cases y1 with
      | false =>
        go_wp2_with fail
        refine (awakeX_any _ (HT.out.after HB3)).mono ?_
        rintro e w9 ⟨rfl, hb9⟩
        have HB9 := HB3.trans (hb9.mono HB3.size)
        clear hb9
        go_wp2_with fail
        go_ret
        exact ⟨rfl, HB9⟩
      | true =>
        go_wp2_with (refine wpList_load_box rfl 25 _ rfl x2_3.out (by rfl) Tryd.underlying25 rfl (by kernel_rfl) ?_)
        refine (CM2.out _ (HR2.out.after HB3)).mono ?_
        rintro e w4 ⟨rfl, hb4⟩
        have HB4 := HB3.trans (hb4.mono HB3.size)
        have x1_4 := Lib.hid (x1_3.out.after hb4)
        have x2_4 := Lib.hid (x2_3.out.after hb4)
        clear hb4
        cases y2 with
        | false =>
          go_wp2_with fail
          refine (awakeX_any _ (HT.out.after HB4)).mono ?_
          rintro e w9 ⟨rfl, hb9⟩
          have HB9 := HB4.trans (hb9.mono HB4.size)
          clear hb9
          go_wp2_with fail
          go_ret
          exact ⟨rfl, HB9⟩
        | true =>
          go_wp2_with (refine wpList_load_box rfl 25 _ rfl x1_4.out (by rfl) Tryd.underlying25 rfl (by kernel_rfl) ?_)
          refine (put_all s1 ⟨vl1, vh1, p11, pn11, pc11, p12, pn12, pc12, p13, pn13, pc13⟩ _ (HR1.out.after HB4) 0 HW1.out (HT.out.after HB4)).mono ?_
          rintro e w5 (⟨_, q1, rfl, ho1, hb5⟩ | ⟨hno, _⟩)
          case inr => rw [← HY1.out] at hno; cases hno
          obtain ⟨a1, c1, rfl, hs1⟩ := ho1.sl
          have HB5 := HB4.trans (hb5.mono HB4.size)
          have x1_5 := Lib.hid (x1_4.out.after hb5)
          have x2_5 := Lib.hid (x2_4.out.after hb5)
          have HS1 := Lib.hid hs1
          clear ho1 hs1 hb5
          go_upto_region 4 with fail
          go_wp2_with (refine wpList_load_box rfl 25 _ rfl x2_5.out (by rfl) Tryd.underlying25 rfl (by kernel_rfl) ?_)
          refine (put_all s2 ⟨vl2, vh2, p21, pn21, pc21, p22, pn22, pc22, p23, pn23, pc23⟩ _ (HR2.out.after HB5) 0 HW2.out (HT.out.after HB5)).mono ?_
          rintro e w6 (⟨_, q2, rfl, ho2, hb6⟩ | ⟨hno, _⟩)
          case inr => rw [← HY2.out] at hno; cases hno
          obtain ⟨a2, c2, rfl, hs2⟩ := ho2.sl
          have HB6 := HB5.trans (hb6.mono HB5.size)
          have x1_6 := Lib.hid (x1_5.out.after hb6)
          have x2_6 := Lib.hid (x2_5.out.after hb6)
          have HS1' := Lib.hid (HS1.out.after hb6)
          have HS2 := Lib.hid hs2
          clear ho2 hs2 hb6 HS1
          obtain ⟨r, hr⟩ := letter (s1.same s2)
          have HFS : Hid ((s1.form == s2.form) = r) := Lib.hid (by rw [hr]; exact form_same (by have := HY1.out; simp only [Sx.may, Bool.true_eq, Bool.and_eq_true] at this; exact this.1.1.1) (by have := HY2.out; simp only [Sx.may, Bool.true_eq, Bool.and_eq_true] at this; exact this.1.1.1))
          have CS : Hid (∀ w', Below w6.heap.size w6 w' → Calls Tryd.prog 14 #[.agg #[.bool vl1, .bool vh1, .slice p11 pn11 pc11, .slice p12 pn12 pc12, .slice p13 pn13 pc13], .agg #[.bool vl2, .bool vh2, .slice p21 pn21 pc21, .slice p22 pn22 pc22, .slice p23 pn23 pc23]] w' fun e w'' => e = .returned (.bool r) ∧ Below w'.heap.size w' w'') :=
            Lib.hid fun w' hb => by rw [hr]; exact refSame_any s1 s2 ⟨vl1, vh1, p11, pn11, pc11, p12, pn12, pc12, p13, pn13, pc13⟩ ⟨vl2, vh2, p21, pn21, pc21, p22, pn22, pc22, p23, pn23, pc23⟩ w' ((HR1.out.after HB6).after hb) ((HR2.out.after HB6).after hb)
          have CA : Hid (∀ w', Below w6.heap.size w6 w' → Calls Tryd.prog 12 #[] w' fun e w'' => e = .returned (.bool true) ∧ Below w'.heap.size w' w'') :=
            Lib.hid fun w' hb => awakeX_any w' ((HT.out.after HB6).after hb)
          obtain ⟨n1, hn1⟩ : ∃ n, n = s1.form.length := ⟨_, rfl⟩
          obtain ⟨n2, hn2⟩ : ∃ n, n = s2.form.length := ⟨_, rfl⟩
          rw [← hn1] at HS1' ⊢
          rw [← hn2] at HS2 ⊢
          obtain ⟨F1, hF1⟩ : ∃ F, F = s1.form := ⟨_, rfl⟩
          obtain ⟨F2, hF2⟩ : ∃ F, F = s2.form := ⟨_, rfl⟩
          rw [← hF1] at HS1' HFS
          rw [← hF2] at HS2 HFS
          have hcv1 := Lib.hid (fun w' (hb : Below w6.heap.size w6 w') => conv_sl (HS1'.out.after hb))
          have hcv2 := Lib.hid (fun w' (hb : Below w6.heap.size w6 w') => conv_sl (HS2.out.after hb))
          clear hr hn1 hn2 hF1 hF2 HS1' HS2
          go_upto_region 5 with fail
          refine wp_region_made w6.heap.size w6 rfl (by kernel_rfl) (Below.refl _ _) ?_
          refine wpQ_run rfl (.int .i64 0) (fun w' hw => by simp [go_sem]) ?_
          simp only [Act.put, List.setIfInBounds_toArray, List.set_cons_zero, List.set_cons_succ]
          refine wpQ_run rfl (.bool true) (fun w' hw => by simp [go_sem]) ?_
          simp only [Act.put, List.setIfInBounds_toArray, List.set_cons_zero, List.set_cons_succ]
          refine wpQ_run rfl (.bool true) (fun w' hw => by simp [go_sem]) ?_
          simp only [Act.put, List.setIfInBounds_toArray, List.set_cons_zero, List.set_cons_succ]
          refine wpQ_run rfl (.int .i64 0) (fun w' hw => by simp [go_sem]) ?_
          simp only [Act.put, List.setIfInBounds_toArray, List.set_cons_zero, List.set_cons_succ]
          refine wpQ_run rfl (.bool true) (fun w' hw => by simp [go_sem]) ?_
          simp only [Act.put, List.setIfInBounds_toArray, List.set_cons_zero, List.set_cons_succ]
          refine wpQ_run rfl (.bool true) (fun w' hw => by simp [go_sem]) ?_
          simp only [Act.put, List.setIfInBounds_toArray, List.set_cons_zero, List.set_cons_succ]
          refine wpQ_run rfl (.bool true) (fun w' hw => by simp [go_sem]) ?_
          simp only [Act.put, List.setIfInBounds_toArray, List.set_cons_zero, List.set_cons_succ]
          refine wpQ_run rfl (.slice a1 n1 c1) (fun w' hw => by simp [go_sem]) ?_
          simp only [Act.put, List.setIfInBounds_toArray, List.set_cons_zero, List.set_cons_succ]
          refine wpQ_run rfl (.string ⟨F1.toArray⟩) (fun w' hw => by simp [go_sem, hcv1.out w' hw]) ?_
          simp only [Act.put, List.setIfInBounds_toArray, List.set_cons_zero, List.set_cons_succ]
          refine wpQ_run rfl (.slice a2 n2 c2) (fun w' hw => by simp [go_sem]) ?_
          simp only [Act.put, List.setIfInBounds_toArray, List.set_cons_zero, List.set_cons_succ]
          refine wpQ_run rfl (.string ⟨F2.toArray⟩) (fun w' hw => by simp [go_sem, hcv2.out w' hw]) ?_
          simp only [Act.put, List.setIfInBounds_toArray, List.set_cons_zero, List.set_cons_succ]
          refine wpQ_run rfl (.bool r) (fun w' hw => by simp [go_sem, HFS.out]) ?_
          simp only [Act.put, List.setIfInBounds_toArray, List.set_cons_zero, List.set_cons_succ]
          refine wpQ_load_box rfl 25 _ rfl x1_6.out (by rfl) x1_6.out.lt Tryd.underlying25 rfl (by kernel_rfl) ?_
          simp only [Act.put, List.setIfInBounds_toArray, List.set_cons_zero, List.set_cons_succ]
          refine wpQ_load_box rfl 25 _ rfl x2_6.out (by rfl) x2_6.out.lt Tryd.underlying25 rfl (by kernel_rfl) ?_
          simp only [Act.put, List.setIfInBounds_toArray, List.set_cons_zero, List.set_cons_succ]
          refine wpQ_callS rfl 14 #[.agg #[.bool vl1, .bool vh1, .slice p11 pn11 pc11, .slice p12 pn12 pc12, .slice p13 pn13 pc13], .agg #[.bool vl2, .bool vh2, .slice p21 pn21 pc21, .slice p22 pn22 pc22, .slice p23 pn23 pc23]] (fun w' => by simp [go_sem]) (.bool r) (Nat.le_refl _) CS.out ?_
          simp only [Act.put, List.setIfInBounds_toArray, List.set_cons_zero, List.set_cons_succ]
          refine wpQ_run rfl (.bool true) (fun w' hw => by cases r <;> simp [go_sem]) ?_
          simp only [Act.put, List.setIfInBounds_toArray, List.set_cons_zero, List.set_cons_succ]
          refine wpQ_run rfl (.bool true) (fun w' hw => by simp [go_sem]) ?_
          simp only [Act.put, List.setIfInBounds_toArray, List.set_cons_zero, List.set_cons_succ]
          refine wpQ_run rfl (.bool true) (fun w' hw => by simp [go_sem]) ?_
          simp only [Act.put, List.setIfInBounds_toArray, List.set_cons_zero, List.set_cons_succ]
          refine wpQ_callS rfl 12 #[] (fun w' => by simp [go_sem]) (.bool true) (Nat.le_refl _) CA.out ?_
          simp only [Act.put, List.setIfInBounds_toArray, List.set_cons_zero, List.set_cons_succ]
          refine wpQ_run rfl (.bool true) (fun w' hw => by simp [go_sem]) ?_
          simp only [Act.put, List.setIfInBounds_toArray, List.set_cons_zero, List.set_cons_succ]
          refine wpQ_run rfl (.bool true) (fun w' hw => by simp [go_sem]) ?_
          simp only [Act.put, List.setIfInBounds_toArray, List.set_cons_zero, List.set_cons_succ]
          intro w7 hb7
          have HB7 := HB6.trans (hb7.mono HB6.size)
          clear hb7
          go_wp2_with fail
          go_ret
          exact ⟨rfl, HB7⟩

end Go.Proofs.YtcflgoddfakepaaDoor

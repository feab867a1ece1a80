/- SexpSame: the walk. -/
import Derived.Test.YtcflgoddfakepaaDoorSxVMg
import Derived.Test.YtcflgoddfakepaaDoorSxTMg
import Derived.Test.YtcflgoddfakepaaDoorSxCutsMg
namespace Go.Proofs.YtcflgoddfakepaaDoor
open Go.RowKit
set_option linter.unusedSimpArgs false
set_option linter.unusedVariables false

/-- the state while the values are held against each other -/
structure SS (w : World) (g y : Nat) (a b c : SV) (s t : Sx) : Prop where
  X : Box w g 25 a.cells
  Y : Box w (g + 1) 25 b.cells
  Z : Box w y 25 c.cells
  R1 : Rd w a s
  R2 : Rd w b t
  R3 : Rd w c s
theorem SS.after {w w' : World} {g y : Nat} {a b c : SV} {s t : Sx} (h : SS w g y a b c s t) (hb : Below w.heap.size w w') : SS w' g y a b c s t :=
  ⟨h.X.after hb, h.Y.after hb, h.Z.after hb, h.R1.after hb, h.R2.after hb, h.R3.after hb⟩

set_option maxHeartbeats 16000000 in
set_option maxRecDepth 100000 in
theorem SexpSame_walk (v1 : SV) (s1 : Sx) (v2 : SV) (s2 : Sx) (w : World) (htab : Tab w) (h1 : Rd w v1 s1) (h2 : Rd w v2 s2) :
    Calls Tryd.prog 5 #[v1.val, v2.val] w fun e w' => e = .returned (.bool true) ∧ Below w.heap.size w w' := by
  obtain ⟨vl1, vh1, p11, pn11, pc11, p12, pn12, pc12, p13, pn13, pc13⟩ := v1
  obtain ⟨vl2, vh2, p21, pn21, pc21, p22, pn22, pc22, p23, pn23, pc23⟩ := v2
  have HR1 := Lib.hid h1.there
  have HR2 := Lib.hid h2
  have HT := Lib.hid htab
  have HZ0 : Hid ((((w.alloc (.cells #[.bool vl1, .bool vh1, .slice p11 pn11 pc11, .slice p12 pn12 pc12, .slice p13 pn13 pc13] 25)).alloc (.cells #[.bool vl2, .bool vh2, .slice p21 pn21 pc21, .slice p22 pn22 pc22, .slice p23 pn23 pc23] 25))).heap.size = w.heap.size + 2) := Lib.hid (by simp)
  have HB0 : Below w.heap.size w ((w.alloc (.cells #[.bool vl1, .bool vh1, .slice p11 pn11 pc11, .slice p12 pn12 pc12, .slice p13 pn13 pc13] 25)).alloc (.cells #[.bool vl2, .bool vh2, .slice p21 pn21 pc21, .slice p22 pn22 pc22, .slice p23 pn23 pc23] 25)) := ((Below.refl _ _).alloc (Nat.le_refl _) _).alloc (by simp) _
  have x0 : Box ((w.alloc (.cells #[.bool vl1, .bool vh1, .slice p11 pn11 pc11, .slice p12 pn12 pc12, .slice p13 pn13 pc13] 25)).alloc (.cells #[.bool vl2, .bool vh2, .slice p21 pn21 pc21, .slice p22 pn22 pc22, .slice p23 pn23 pc23] 25)) w.heap.size 25 #[.bool vl1, .bool vh1, .slice p11 pn11 pc11, .slice p12 pn12 pc12, .slice p13 pn13 pc13] := (Box.new _ _ _).alloc _
  have y0 : Box ((w.alloc (.cells #[.bool vl1, .bool vh1, .slice p11 pn11 pc11, .slice p12 pn12 pc12, .slice p13 pn13 pc13] 25)).alloc (.cells #[.bool vl2, .bool vh2, .slice p21 pn21 pc21, .slice p22 pn22 pc22, .slice p23 pn23 pc23] 25)) (w.heap.size + 1) 25 #[.bool vl2, .bool vh2, .slice p21 pn21 pc21, .slice p22 pn22 pc22, .slice p23 pn23 pc23] := by
    have := Box.new (w.alloc (.cells #[.bool vl1, .bool vh1, .slice p11 pn11 pc11, .slice p12 pn12 pc12, .slice p13 pn13 pc13] 25)) 25 #[.bool vl2, .bool vh2, .slice p21 pn21 pc21, .slice p22 pn22 pc22, .slice p23 pn23 pc23]
    simpa using this
  have R1 : ∀ u, Below w.heap.size w u → Rd u ⟨vl1, vh1, p11, pn11, pc11, p12, pn12, pc12, p13, pn13, pc13⟩ s1 := fun u hb => (h1.after hb)
  have HRR1 := Lib.hid R1
  replace x0 := Lib.hid x0
  replace y0 := Lib.hid y0
  obtain ⟨g1, hg1⟩ := letter (s1.great 0)
  obtain ⟨g2, hg2⟩ := letter (s2.great 0)
  have HG1 := Lib.hid hg1
  have CG1 := Lib.hid (fun w h => great_any s1 ⟨vl1, vh1, p11, pn11, pc11, p12, pn12, pc12, p13, pn13, pc13⟩ 0 w h (by omega))
  have CG2 := Lib.hid (fun w h => great_any s2 ⟨vl2, vh2, p21, pn21, pc21, p22, pn22, pc22, p23, pn23, pc23⟩ 0 w h (by omega))
  rw [← hg1] at CG1
  rw [← hg2] at CG2
  clear hg1 hg2 h1 h2 htab R1
  show Calls _ _ #[.agg #[.bool vl1, .bool vh1, .slice p11 pn11 pc11, .slice p12 pn12 pc12, .slice p13 pn13 pc13], .agg #[.bool vl2, .bool vh2, .slice p21 pn21 pc21, .slice p22 pn22 pc22, .slice p23 pn23 pc23]] _ _
  go_enter Tryd.func5, Tryd.ntmps5
  go_upto_region 1 with fail
  change Code.wp _ _ _ _ ((w.alloc (.cells #[.bool vl1, .bool vh1, .slice p11 pn11 pc11, .slice p12 pn12 pc12, .slice p13 pn13 pc13] 25)).alloc (.cells #[.bool vl2, .bool vh2, .slice p21 pn21 pc21, .slice p22 pn22 pc22, .slice p23 pn23 pc23] 25))
  generalize ((w.alloc (.cells #[.bool vl1, .bool vh1, .slice p11 pn11 pc11, .slice p12 pn12 pc12, .slice p13 pn13 pc13] 25)).alloc (.cells #[.bool vl2, .bool vh2, .slice p21 pn21 pc21, .slice p22 pn22 pc22, .slice p23 pn23 pc23] 25)) = w0 at *
  go_wp2_with (refine wpList_load_box rfl 25 _ rfl x0.out (by rfl) Tryd.underlying25 rfl (by kernel_rfl) ?_)
  refine (CG1.out _ (HRR1.out _ HB0)).mono ?_
  rintro e w1 ⟨rfl, hb1⟩
  have HB1 := HB0.trans (hb1.mono HB0.size)
  have x1 := Lib.hid (x0.out.after hb1)
  have y1 := Lib.hid (y0.out.after hb1)
  have HZ01 : Hid (w0.heap.size ≤ w1.heap.size) := Lib.hid hb1.size
  clear hb1 x0 y0
  cases g1 with
  | true =>
    go_wp2_with fail
    refine (awakeX_any _ (HT.out.after HB1)).mono ?_
    rintro e w9 ⟨rfl, hb9⟩
    have HB9 := HB1.trans (hb9.mono HB1.size)
    clear hb9
    go_wp2_with fail
    go_ret
    exact ⟨rfl, HB9⟩
  | false =>
    have HW := Lib.hid (great_wide HG1.out.symm)
    go_wp2_with (refine wpList_load_box rfl 25 _ rfl y1.out (by rfl) Tryd.underlying25 rfl (by kernel_rfl) ?_)
    refine (CG2.out _ (HR2.out.after HB1)).mono ?_
    rintro e w2 ⟨rfl, hb2⟩
    have HB2 := HB1.trans (hb2.mono HB1.size)
    have HBS : Hid (w0.heap.size ≤ w2.heap.size) := Lib.hid (Nat.le_trans HZ01.out hb2.size)
    have x2 := Lib.hid (x1.out.after hb2)
    have y2 := Lib.hid (y1.out.after hb2)
    clear hb2 x1 y1
    cases g2 with
    | true =>
      go_wp2_with fail
      refine (awakeX_any _ (HT.out.after HB2)).mono ?_
      rintro e w9 ⟨rfl, hb9⟩
      have HB9 := HB2.trans (hb9.mono HB2.size)
      clear hb9
      go_wp2_with fail
      go_ret
      exact ⟨rfl, HB9⟩
    | false =>
      go_wp2_with (refine wpList_load_box rfl 25 _ rfl x2.out (by rfl) Tryd.underlying25 rfl (by kernel_rfl) ?_)
      refine (clone_any s1 ⟨vl1, vh1, p11, pn11, pc11, p12, pn12, pc12, p13, pn13, pc13⟩ _ 0 (HRR1.out _ HB2) HW.out).mono ?_
      rintro e w3 ⟨vc, rfl, cl3, hb3⟩
      have HB3 := HB2.trans (hb3.mono HB2.size)
      obtain ⟨K3, cw3, hkm⟩ := cl3.cw
      have HKMX := Lib.hid hkm
      obtain ⟨cl, ch, m1, r1, t1, m2, r2, t2, m3, r3, t3⟩ := vc
      have HCR := Lib.hid cl3.rd
      have x3 := Lib.hid (x2.out.after hb3)
      have y3 := Lib.hid (y2.out.after hb3)
      have hzz := hb3.size
      have HM1 : Hid (r1 ≤ maxLen) := Lib.hid (by have := cl3.rd.parts.2.2.1; exact Nat.le_trans this.2.1 this.2.2.1)
      have HM2 : Hid (r2 ≤ maxLen) := Lib.hid (by have := cl3.rd.parts.2.2.2.1; exact Nat.le_trans this.2.1 this.2.2.1)
      have HM3 : Hid (r3 ≤ maxLen) := Lib.hid (Nat.le_trans cl3.rd.parts.2.2.2.2.2.1 cl3.rd.parts.2.2.2.2.2.2.1)
      replace HKMX : Hid (∀ i, i < r3 → (K3 i).n2 ≤ maxLen) := HKMX
      clear cl3 hb3 x2 y2 hkm
      unfold SV.val
      go_upto_region 4 with ((refine wpList_store_box (cells := #[.bool cl, .bool ch, .slice m1 r1 t1, .slice m2 r2 t2, .slice m3 r3 t3]) rfl 25 _ _ rfl (Box.new _ _ _) (by rfl) (by rfl) rfl (by kernel_rfl) (by simp [Value.oneCell']) ?_); intro u1 Y1 st1)
      have b34 : Below w3.heap.size w3 u1 := st1.below w3.heap.size w3 (Nat.le_refl _) ((Below.refl _ _).alloc (Nat.le_refl _) _)
      have HB4 := HB3.trans (b34.mono HB3.size)
      have CW4 : CW u1 w2.heap.size w3.heap.size ⟨cl, ch, m1, r1, t1, m2, r2, t2, m3, r3, t3⟩ K3 := cw3.keep (fun k hk => b34.block k hk)
      have hEu : w3.heap.size < u1.heap.size := Y1.lt
      have SS0 : SS u1 w.heap.size w3.heap.size ⟨vl1, vh1, p11, pn11, pc11, p12, pn12, pc12, p13, pn13, pc13⟩ ⟨vl2, vh2, p21, pn21, pc21, p22, pn22, pc22, p23, pn23, pc23⟩ ⟨cl, ch, m1, r1, t1, m2, r2, t2, m3, r3, t3⟩ s1 s2 := ⟨x3.out.after b34, y3.out.after b34, Y1, HRR1.out _ HB4, HR2.out.after HB4, (HCR.out.mono (fun _ _ => trivial)).after b34⟩
      have hB2 : w.heap.size + 2 ≤ w2.heap.size := by have := HZ0.out; have := HBS.out; omega
      obtain ⟨rs, hrs⟩ := letter (s1.same s2)
      have HRS := Lib.hid hrs
      clear b34 st1 Y1 cw3 x3 y3 HCR hrs HB3
      generalize w3.heap.size = E at *
      have hKS : Keeps (fun w' => SS w' w.heap.size E ⟨vl1, vh1, p11, pn11, pc11, p12, pn12, pc12, p13, pn13, pc13⟩ ⟨vl2, vh2, p21, pn21, pc21, p22, pn22, pc22, p23, pn23, pc23⟩ ⟨cl, ch, m1, r1, t1, m2, r2, t2, m3, r3, t3⟩ s1 s2) := fun w1 w2 h b => h.after b
      refine wp_region_W (w := u1) [] (fun w' => SS w' w.heap.size E ⟨vl1, vh1, p11, pn11, pc11, p12, pn12, pc12, p13, pn13, pc13⟩ ⟨vl2, vh2, p21, pn21, pc21, p22, pn22, pc22, p23, pn23, pc23⟩ ⟨cl, ch, m1, r1, t1, m2, r2, t2, m3, r3, t3⟩ s1 s2) rfl (SS0.after (Below.refl _ _).drew) ?_
      refine wpW_val 0 hKS rfl (by kernel_rfl) (by kernel_rfl) (by kernel_rfl) (by kernel_rfl) rfl (fun _ _ _ _ h => h) (.agg #[.bool vl1, .bool vh1, .slice p11 pn11 pc11, .slice p12 pn12 pc12, .slice p13 pn13 pc13]) (fun w' h => run_load_box rfl h.X (by rfl) Tryd.underlying25 rfl (by kernel_rfl)) ?_
      simp only [Act.put, List.setIfInBounds_toArray, List.set_cons_zero, List.set_cons_succ]
      refine wpW_val 1 hKS rfl (by kernel_rfl) (by kernel_rfl) (by kernel_rfl) (by kernel_rfl) rfl (fun _ _ _ _ h => h) (.agg #[.bool vl2, .bool vh2, .slice p21 pn21 pc21, .slice p22 pn22 pc22, .slice p23 pn23 pc23]) (fun w' h => run_load_box rfl h.Y (by rfl) Tryd.underlying25 rfl (by kernel_rfl)) ?_
      simp only [Act.put, List.setIfInBounds_toArray, List.set_cons_zero, List.set_cons_succ]
      refine wpW_call 2 hKS rfl (by kernel_rfl) (by kernel_rfl) (by kernel_rfl) (by kernel_rfl) rfl (fun _ _ _ _ h => h) 17 #[.agg #[.bool vl1, .bool vh1, .slice p11 pn11 pc11, .slice p12 pn12 pc12, .slice p13 pn13 pc13], .agg #[.bool vl2, .bool vh2, .slice p21 pn21 pc21, .slice p22 pn22 pc22, .slice p23 pn23 pc23]] (fun w => by simp [go_sem]) (.bool rs) (fun w' h => by have := same_any s1 s2 _ _ w' h.R1 h.R2; rwa [← HRS.out] at this) ?_
      simp only [Act.put, List.setIfInBounds_toArray, List.set_cons_zero, List.set_cons_succ]
      refine wpW_val 3 hKS rfl (by kernel_rfl) (by kernel_rfl) (by kernel_rfl) (by kernel_rfl) rfl (fun _ _ _ _ h => h) (.agg #[.bool vl1, .bool vh1, .slice p11 pn11 pc11, .slice p12 pn12 pc12, .slice p13 pn13 pc13]) (fun w' h => run_load_box rfl h.X (by rfl) Tryd.underlying25 rfl (by kernel_rfl)) ?_
      simp only [Act.put, List.setIfInBounds_toArray, List.set_cons_zero, List.set_cons_succ]
      refine wpW_val 4 hKS rfl (by kernel_rfl) (by kernel_rfl) (by kernel_rfl) (by kernel_rfl) rfl (fun _ _ _ _ h => h) (.agg #[.bool vl2, .bool vh2, .slice p21 pn21 pc21, .slice p22 pn22 pc22, .slice p23 pn23 pc23]) (fun w' h => run_load_box rfl h.Y (by rfl) Tryd.underlying25 rfl (by kernel_rfl)) ?_
      simp only [Act.put, List.setIfInBounds_toArray, List.set_cons_zero, List.set_cons_succ]
      refine wpW_call 5 hKS rfl (by kernel_rfl) (by kernel_rfl) (by kernel_rfl) (by kernel_rfl) rfl (fun _ _ _ _ h => h) 14 #[.agg #[.bool vl1, .bool vh1, .slice p11 pn11 pc11, .slice p12 pn12 pc12, .slice p13 pn13 pc13], .agg #[.bool vl2, .bool vh2, .slice p21 pn21 pc21, .slice p22 pn22 pc22, .slice p23 pn23 pc23]] (fun w => by simp [go_sem]) (.bool rs) (fun w' h => by have := refSame_any s1 s2 _ _ w' h.R1 h.R2; rwa [← HRS.out] at this) ?_
      simp only [Act.put, List.setIfInBounds_toArray, List.set_cons_zero, List.set_cons_succ]
      refine wpW_val 6 hKS rfl (by kernel_rfl) (by kernel_rfl) (by kernel_rfl) (by kernel_rfl) rfl (fun _ _ _ _ h => h) (.bool false) (fun w' h => by cases rs <;> simp [go_sem]) ?_
      simp only [Act.put, List.setIfInBounds_toArray, List.set_cons_zero, List.set_cons_succ]
      refine wpW_val 7 hKS rfl (by kernel_rfl) (by kernel_rfl) (by kernel_rfl) (by kernel_rfl) rfl (fun _ _ _ _ h => h) (.bool false) (fun w' h => by simp [go_sem]) ?_
      simp only [Act.put, List.setIfInBounds_toArray, List.set_cons_zero, List.set_cons_succ]
      refine wpW_val 8 hKS rfl (by kernel_rfl) (by kernel_rfl) (by kernel_rfl) (by kernel_rfl) rfl (fun _ _ _ _ h => h) (.agg #[.bool vl1, .bool vh1, .slice p11 pn11 pc11, .slice p12 pn12 pc12, .slice p13 pn13 pc13]) (fun w' h => run_load_box rfl h.X (by rfl) Tryd.underlying25 rfl (by kernel_rfl)) ?_
      simp only [Act.put, List.setIfInBounds_toArray, List.set_cons_zero, List.set_cons_succ]
      refine wpW_val 9 hKS rfl (by kernel_rfl) (by kernel_rfl) (by kernel_rfl) (by kernel_rfl) rfl (fun _ _ _ _ h => h) (.agg #[.bool vl1, .bool vh1, .slice p11 pn11 pc11, .slice p12 pn12 pc12, .slice p13 pn13 pc13]) (fun w' h => run_load_box rfl h.X (by rfl) Tryd.underlying25 rfl (by kernel_rfl)) ?_
      simp only [Act.put, List.setIfInBounds_toArray, List.set_cons_zero, List.set_cons_succ]
      refine wpW_call 10 hKS rfl (by kernel_rfl) (by kernel_rfl) (by kernel_rfl) (by kernel_rfl) rfl (fun _ _ _ _ h => h) 17 #[.agg #[.bool vl1, .bool vh1, .slice p11 pn11 pc11, .slice p12 pn12 pc12, .slice p13 pn13 pc13], .agg #[.bool vl1, .bool vh1, .slice p11 pn11 pc11, .slice p12 pn12 pc12, .slice p13 pn13 pc13]] (fun w => by simp [go_sem]) (.bool true) (fun w' h => by have := same_any s1 s1 _ _ w' h.R1 h.R1; rwa [Sx.same_refl] at this) ?_
      simp only [Act.put, List.setIfInBounds_toArray, List.set_cons_zero, List.set_cons_succ]
      refine wpW_val 11 hKS rfl (by kernel_rfl) (by kernel_rfl) (by kernel_rfl) (by kernel_rfl) rfl (fun _ _ _ _ h => h) (.bool false) (fun w' h => by simp [go_sem]) ?_
      simp only [Act.put, List.setIfInBounds_toArray, List.set_cons_zero, List.set_cons_succ]
      refine wpW_val 12 hKS rfl (by kernel_rfl) (by kernel_rfl) (by kernel_rfl) (by kernel_rfl) rfl (fun _ _ _ _ h => h) (.bool false) (fun w' h => by simp [go_sem]) ?_
      simp only [Act.put, List.setIfInBounds_toArray, List.set_cons_zero, List.set_cons_succ]
      refine wpW_val 13 hKS rfl (by kernel_rfl) (by kernel_rfl) (by kernel_rfl) (by kernel_rfl) rfl (fun _ _ _ _ h => h) (.bool false) (fun w' h => by simp [go_sem]) ?_
      simp only [Act.put, List.setIfInBounds_toArray, List.set_cons_zero, List.set_cons_succ]
      refine wpW_val 14 hKS rfl (by kernel_rfl) (by kernel_rfl) (by kernel_rfl) (by kernel_rfl) rfl (fun _ _ _ _ h => h) (.agg #[.bool cl, .bool ch, .slice m1 r1 t1, .slice m2 r2 t2, .slice m3 r3 t3]) (fun w' h => run_load_box rfl h.Z (by rfl) Tryd.underlying25 rfl (by kernel_rfl)) ?_
      simp only [Act.put, List.setIfInBounds_toArray, List.set_cons_zero, List.set_cons_succ]
      refine wpW_val 15 hKS rfl (by kernel_rfl) (by kernel_rfl) (by kernel_rfl) (by kernel_rfl) rfl (fun _ _ _ _ h => h) (.agg #[.bool vl1, .bool vh1, .slice p11 pn11 pc11, .slice p12 pn12 pc12, .slice p13 pn13 pc13]) (fun w' h => run_load_box rfl h.X (by rfl) Tryd.underlying25 rfl (by kernel_rfl)) ?_
      simp only [Act.put, List.setIfInBounds_toArray, List.set_cons_zero, List.set_cons_succ]
      refine wpW_call 16 hKS rfl (by kernel_rfl) (by kernel_rfl) (by kernel_rfl) (by kernel_rfl) rfl (fun _ _ _ _ h => h) 14 #[.agg #[.bool cl, .bool ch, .slice m1 r1 t1, .slice m2 r2 t2, .slice m3 r3 t3], .agg #[.bool vl1, .bool vh1, .slice p11 pn11 pc11, .slice p12 pn12 pc12, .slice p13 pn13 pc13]] (fun w => by simp [go_sem]) (.bool true) (fun w' h => by have := refSame_any s1 s1 _ _ w' h.R3 h.R1; rwa [Sx.same_refl] at this) ?_
      simp only [Act.put, List.setIfInBounds_toArray, List.set_cons_zero, List.set_cons_succ]
      refine wpW_val 17 hKS rfl (by kernel_rfl) (by kernel_rfl) (by kernel_rfl) (by kernel_rfl) rfl (fun _ _ _ _ h => h) (.bool false) (fun w' h => by simp [go_sem]) ?_
      simp only [Act.put, List.setIfInBounds_toArray, List.set_cons_zero, List.set_cons_succ]
      refine wpW_val 18 hKS rfl (by kernel_rfl) (by kernel_rfl) (by kernel_rfl) (by kernel_rfl) rfl (fun _ _ _ _ h => h) (.bool false) (fun w' h => by simp [go_sem]) ?_
      simp only [Act.put, List.setIfInBounds_toArray, List.set_cons_zero, List.set_cons_succ]
      refine wpW_done (by kernel_rfl) ?_
      intro w5 b5 s5
      have b15 : Below u1.heap.size u1 w5 := (Below.refl _ _).drew.trans b5
      have HB5 := HB4.trans (b15.mono HB4.size)
      have HS5 := Lib.hid s5
      have CW5 : CW w5 w2.heap.size E ⟨cl, ch, m1, r1, t1, m2, r2, t2, m3, r3, t3⟩ K3 := CW4.keep (fun k hk => b15.block k (by omega))
      have hz5 := b15.size
      clear hKS b5 s5 SS0 b15 CW4 HB4
      go_wp2_with (refine wpList_load_box rfl 25 _ rfl HS5.out.X (by rfl) Tryd.underlying25 rfl (by kernel_rfl) ?_)
      refine (clone_any s1 ⟨vl1, vh1, p11, pn11, pc11, p12, pn12, pc12, p13, pn13, pc13⟩ _ 0 (HRR1.out _ HB5) HW.out).mono ?_
      rintro e w6 ⟨vd, rfl, cl6, hb6⟩
      have HB6 := HB5.trans (hb6.mono HB5.size)
      have CW6 : CW w6 w2.heap.size E ⟨cl, ch, m1, r1, t1, m2, r2, t2, m3, r3, t3⟩ K3 := CW5.keep (fun k hk => hb6.block k (by omega))
      have HDR := Lib.hid cl6.rd
      have HS6 := Lib.hid (HS5.out.after hb6)
      have hz6 := hb6.size
      obtain ⟨dl, dh, i1, j1, k1, i2, j2, k2, i3, j3, k3⟩ := vd
      unfold SV.val
      clear cl6 hb6 CW5 HB5 HS5
      go_upto_region 7 with ((refine wpList_store_box (cells := #[.bool dl, .bool dh, .slice i1 j1 k1, .slice i2 j2 k2, .slice i3 j3 k3]) rfl 25 _ _ rfl (Box.new _ _ _) (by rfl) (by rfl) rfl (by kernel_rfl) (by simp [Value.oneCell']) ?_); intro w8 Y7 st7)
      have b67 : Below w6.heap.size w6 w8 := st7.below w6.heap.size w6 (Nat.le_refl _) ((Below.refl _ _).alloc (Nat.le_refl _) _)
      have HBB8 := HB6.trans (b67.mono HB6.size)
      have CW8 : CW w8 w2.heap.size E ⟨cl, ch, m1, r1, t1, m2, r2, t2, m3, r3, t3⟩ K3 := CW6.keep (fun k hk => b67.block k (by omega))
      have hz8 := b67.size
      have x8 := HS6.out.X.after b67
      have z8 := HS6.out.Z.after b67
      have d8 : RdI (fun k => w5.heap.size ≤ k) w8 ⟨dl, dh, i1, j1, k1, i2, j2, k2, i3, j3, k3⟩ s1 := HDR.out.after b67
      have a8 := HR1.out.after HBB8
      have HB8 : Hid (∀ u, But (fun k => w2.heap.size ≤ k ∧ k < E) w8 u → Box u w.heap.size 25 #[.bool vl1, .bool vh1, .slice p11 pn11 pc11, .slice p12 pn12 pc12, .slice p13 pn13 pc13] ∧ Box u w6.heap.size 25 #[.bool dl, .bool dh, .slice i1 j1 k1, .slice i2 j2 k2, .slice i3 j3 k3] ∧ Rd u ⟨vl1, vh1, p11, pn11, pc11, p12, pn12, pc12, p13, pn13, pc13⟩ s1 ∧ Rd u ⟨dl, dh, i1, j1, k1, i2, j2, k2, i3, j3, k3⟩ s1 ∧ Below w.heap.size w u) := Lib.hid fun u hb =>
        ⟨hb.box x8 (by omega), hb.box Y7 (by omega), (a8.but hb (fun k hk e => by have := hk.2; omega)).mono (fun _ _ => trivial), (d8.but hb (fun k hk e => by omega)).mono (fun _ _ => trivial), hb.after HBB8 HBB8.size (fun k hk => by omega)⟩
      have HBX : Hid (∀ u, But (fun k => w2.heap.size ≤ k ∧ k < E) w8 u → Box u E 25 #[.bool cl, .bool ch, .slice m1 r1 t1, .slice m2 r2 t2, .slice m3 r3 t3]) := Lib.hid fun u hb => hb.box z8 (by omega)
      have HE8 : Hid (E ≤ w8.heap.size) := Lib.hid (by omega)
      have HLS : Hid (LS w8 w8 w2.heap.size E ⟨cl, ch, m1, r1, t1, m2, r2, t2, m3, r3, t3⟩ K3) := Lib.hid ⟨CW8, But.refl _ _⟩
      have hls := HLS.out
      have c2 : w8.cell? ⟨E, 2, none⟩ = some (.slice m1 r1 t1) := (HBX.out _ hls.but).cell 2 rfl
      have c3 : w8.cell? ⟨E, 3, none⟩ = some (.slice m2 r2 t2) := (HBX.out _ hls.but).cell 3 rfl
      have c4 : w8.cell? ⟨E, 4, none⟩ = some (.slice m3 r3 t3) := (HBX.out _ hls.but).cell 4 rfl
      clear hls HBB8 CW8 x8 z8 d8 a8 Y7 st7 b67 CW6 HB6 HDR HS6 HBS
      generalize w6.heap.size = yd at *
      go_wp2_with fail
      go_loopw [7] (fun i wr => ∃ j : Nat, j ≤ r2 ∧ i = .int .i64 j ∧ Hid (LS w8 wr w2.heap.size E ⟨cl, ch, m1, r1, t1, m2, r2, t2, m3, r3, t3⟩ K3)) (fun i _ => r2 - (intOf i).toNat)
      case atStart => exact ⟨0, Nat.zero_le _, rfl, HLS⟩
      case round =>
        obtain ⟨j, hjn, rfl, HLSn⟩ := hrel
        obtain ⟨wb, rfl⟩ : ∃ wb : World, wb = wr := ⟨_, rfl⟩
        clear HLS c2 c3 c4
        have HLS := HLSn
        clear HLSn
        have hls := HLS.out
        have c2 : wb.cell? ⟨E, 2, none⟩ = some (.slice m1 r1 t1) := (HBX.out _ hls.but).cell 2 rfl
        have c3 : wb.cell? ⟨E, 3, none⟩ = some (.slice m2 r2 t2) := (HBX.out _ hls.but).cell 3 rfl
        have c4 : wb.cell? ⟨E, 4, none⟩ = some (.slice m3 r3 t3) := (HBX.out _ hls.but).cell 4 rfl
        have htb : TB wb w2.heap.size E m2 r2 := hls.cw.data
        clear hls
        by_cases hj : j < r2
        · obtain ⟨bj, oj, rfl, hj1, hj2, hj3⟩ : ∃ bj oj, m2 = some ⟨bj, oj, none⟩ ∧ w2.heap.size ≤ bj ∧ bj < E ∧ ∀ j, j < r2 → (∃ z : Int, wb.cell? ⟨bj, oj + j, none⟩ = some (.int .u8 z)) ∧ wb.frozen? ⟨bj, oj + j, none⟩ = false := by
            rcases htb with h0 | h0
            · omega
            · exact h0
          obtain ⟨⟨z, hz⟩, hfz⟩ := hj3 j hj
          have hm : (r2 : Int) ≤ 9223372036854775807 := by have := HM2.out; unfold maxLen at this; omega
          clear hj3 htb
          go_wp2_with fail
          go_roundw
          case rel => exact ⟨j + 1, by omega, by go_num, Lib.hid (HLS.out.byte hz hj1 hj2 _)⟩
          case measure => simp [intOf]; omega
        · have hjj : j = r2 := by omega
          clear htb
          go_wp2_with fail
          go_loopw [8] (fun i wr => ∃ j : Nat, j ≤ r1 ∧ i = .int .i64 j ∧ Hid (LS w8 wr w2.heap.size E ⟨cl, ch, m1, r1, t1, m2, r2, t2, m3, r3, t3⟩ K3)) (fun i _ => r1 - (intOf i).toNat)
          case atStart => exact ⟨0, Nat.zero_le _, rfl, HLS⟩
          case round =>
            obtain ⟨j, hjn, rfl, HLSn⟩ := hrel
            obtain ⟨wc, rfl⟩ : ∃ wc : World, wc = wr := ⟨_, rfl⟩
            clear HLS c2 c3 c4
            have HLS := HLSn
            clear HLSn
            have hls := HLS.out
            have c2 : wc.cell? ⟨E, 2, none⟩ = some (.slice m1 r1 t1) := (HBX.out _ hls.but).cell 2 rfl
            have c3 : wc.cell? ⟨E, 3, none⟩ = some (.slice m2 r2 t2) := (HBX.out _ hls.but).cell 3 rfl
            have c4 : wc.cell? ⟨E, 4, none⟩ = some (.slice m3 r3 t3) := (HBX.out _ hls.but).cell 4 rfl
            have htb : TB wc w2.heap.size E m1 r1 := hls.cw.hint
            clear hls
            by_cases hj : j < r1
            · obtain ⟨bj, oj, rfl, hj1, hj2, hj3⟩ : ∃ bj oj, m1 = some ⟨bj, oj, none⟩ ∧ w2.heap.size ≤ bj ∧ bj < E ∧ ∀ j, j < r1 → (∃ z : Int, wc.cell? ⟨bj, oj + j, none⟩ = some (.int .u8 z)) ∧ wc.frozen? ⟨bj, oj + j, none⟩ = false := by
                rcases htb with h0 | h0
                · omega
                · exact h0
              obtain ⟨⟨z, hz⟩, hfz⟩ := hj3 j hj
              have hm : (r1 : Int) ≤ 9223372036854775807 := by have := HM1.out; unfold maxLen at this; omega
              clear hj3 htb
              go_wp2_with fail
              go_roundw
              case rel => exact ⟨j + 1, by omega, by go_num, Lib.hid (HLS.out.byte hz hj1 hj2 _)⟩
              case measure => simp [intOf]; omega
            · have hjj : j = r1 := by omega
              clear htb
              go_wp2_with fail
              go_loopw [9] (fun i wr => ∃ j : Nat, j ≤ r3 ∧ i = .int .i64 j ∧ Hid (LS w8 wr w2.heap.size E ⟨cl, ch, m1, r1, t1, m2, r2, t2, m3, r3, t3⟩ K3)) (fun i _ => r3 - (intOf i).toNat)
              case atStart => exact ⟨0, Nat.zero_le _, rfl, HLS⟩
              case round =>
                obtain ⟨i, hin, rfl, HLS2⟩ := hrel
                obtain ⟨wd, rfl⟩ : ∃ wd : World, wd = wr := ⟨_, rfl⟩
                clear HLS c2 c3 c4
                have hls := HLS2.out
                have c2 : wd.cell? ⟨E, 2, none⟩ = some (.slice m1 r1 t1) := (HBX.out _ hls.but).cell 2 rfl
                have c3 : wd.cell? ⟨E, 3, none⟩ = some (.slice m2 r2 t2) := (HBX.out _ hls.but).cell 3 rfl
                have c4 : wd.cell? ⟨E, 4, none⟩ = some (.slice m3 r3 t3) := (HBX.out _ hls.but).cell 4 rfl
                by_cases hi3 : i < r3
                · obtain ⟨bk, ok, rfl, hk1, hk2, hk3⟩ : ∃ bk ok, m3 = some ⟨bk, ok, none⟩ ∧ w2.heap.size ≤ bk ∧ bk < E ∧ ∀ u, CW u w2.heap.size E ⟨cl, ch, m1, r1, t1, m2, r2, t2, m3, r3, t3⟩ K3 → (∃ x : Bool, u.cell? ⟨bk, ok + i * 5 + 1, none⟩ = some (.bool x)) ∧ u.frozen? ⟨bk, ok + i * 5 + 1, none⟩ = false ∧ u.cell? ⟨bk, ok + i * 5 + 3, none⟩ = some (.slice (K3 i).a2 (K3 i).n2 (K3 i).c2) := by
                    rcases hls.cw.row with h0 | ⟨bk, ok, e, h1, h2, h3⟩
                    · exact absurd h0 (by show ¬ r3 = 0; omega)
                    · refine ⟨bk, ok, e, h1, h2, fun u hu => ?_⟩
                      rcases hu.row with h0 | ⟨bk', ok', e', h1', h2', h3'⟩
                      · exact absurd h0 (by show ¬ r3 = 0; omega)
                      · rw [e] at e'
                        cases e'
                        exact h3' i hi3
                  have HKT : Hid (∀ u, CW u w2.heap.size E ⟨cl, ch, m1, r1, t1, m2, r2, t2, some ⟨bk, ok, none⟩, r3, t3⟩ K3 → TB u w2.heap.size E (K3 i).a2 (K3 i).n2) := Lib.hid fun u hu => hu.kids i hi3
                  have HROW := Lib.hid hk3
                  obtain ⟨⟨x, hx⟩, hfx, hsx⟩ := hk3 wd hls.cw
                  have HKM : Hid ((K3 i).n2 ≤ maxLen) := HKMX.out i hi3
                  obtain ⟨ka, hka⟩ : ∃ ka, ka = (K3 i).a2 := ⟨_, rfl⟩
                  obtain ⟨kn, hkn⟩ : ∃ kn, kn = (K3 i).n2 := ⟨_, rfl⟩
                  obtain ⟨kc, hkc⟩ : ∃ kc, kc = (K3 i).c2 := ⟨_, rfl⟩
                  rw [← hka, ← hkn, ← hkc] at HROW
                  rw [← hka, ← hkn] at HKT
                  rw [← hkn] at HKM
                  have hbz := cell_lt hx
                  have hm3 : (r3 : Int) ≤ 9223372036854775807 := by have := HM3.out; unfold maxLen at this; omega
                  clear hk3 hls hka hkn hkc hsx
                  go_upto_region 18 with fail
                  have hKS : Keeps (fun w' => LS w8 w' w2.heap.size E ⟨cl, ch, m1, r1, t1, m2, r2, t2, some ⟨bk, ok, none⟩, r3, t3⟩ K3 ∧ w'.cell? ⟨bk, ok + i * 5 + 1, none⟩ = some (.bool x) ∧ bk < w'.heap.size) := fun w1 w2' h b => ⟨h.1.after b HE8.out, (b.cell (p := ⟨bk, ok + i * 5 + 1, none⟩) (by have := h.2.2; exact this)).trans h.2.1, by have := b.size; have := h.2.2; omega⟩
                  refine wp_region_W (w := wd) [12] (fun w' => LS w8 w' w2.heap.size E ⟨cl, ch, m1, r1, t1, m2, r2, t2, some ⟨bk, ok, none⟩, r3, t3⟩ K3 ∧ w'.cell? ⟨bk, ok + i * 5 + 1, none⟩ = some (.bool x) ∧ bk < w'.heap.size) rfl (hKS _ _ ⟨HLS2.out, hx, hbz⟩ (Below.refl _ _).drew) ?_
                  refine wpW_val 0 hKS rfl (by kernel_rfl) (by kernel_rfl) (by kernel_rfl) (by kernel_rfl) rfl (fun _ _ _ _ h => h) (.pointer (some ⟨E, 4, none⟩)) (fun w' h => by simp [go_sem]) ?_
                  simp only [Act.put, List.setIfInBounds_toArray, List.set_cons_zero, List.set_cons_succ]
                  refine wpW_val 1 hKS rfl (by kernel_rfl) (by kernel_rfl) (by kernel_rfl) (by kernel_rfl) rfl (fun _ _ _ _ h => h) (.slice (some ⟨bk, ok, none⟩) r3 t3) (fun w' h => by have q : w'.cell? ⟨E, 4, none⟩ = some (.slice (some ⟨bk, ok, none⟩) r3 t3) := (HBX.out _ h.1.but).cell 4 rfl; simp [go_sem, q]) ?_
                  simp only [Act.put, List.setIfInBounds_toArray, List.set_cons_zero, List.set_cons_succ]
                  refine wpW_val 2 hKS rfl (by kernel_rfl) (by kernel_rfl) (by kernel_rfl) (by kernel_rfl) rfl (fun _ _ _ _ h => h) (.int .i64 i) (fun w' h => by simp [go_sem]) ?_
                  simp only [Act.put, List.setIfInBounds_toArray, List.set_cons_zero, List.set_cons_succ]
                  refine wpW_val 3 hKS rfl (by kernel_rfl) (by kernel_rfl) (by kernel_rfl) (by kernel_rfl) rfl (fun _ _ _ _ h => h) (.pointer (some ⟨E, 4, none⟩)) (fun w' h => by simp [go_sem]) ?_
                  simp only [Act.put, List.setIfInBounds_toArray, List.set_cons_zero, List.set_cons_succ]
                  refine wpW_val 4 hKS rfl (by kernel_rfl) (by kernel_rfl) (by kernel_rfl) (by kernel_rfl) rfl (fun _ _ _ _ h => h) (.slice (some ⟨bk, ok, none⟩) r3 t3) (fun w' h => by have q : w'.cell? ⟨E, 4, none⟩ = some (.slice (some ⟨bk, ok, none⟩) r3 t3) := (HBX.out _ h.1.but).cell 4 rfl; simp [go_sem, q]) ?_
                  simp only [Act.put, List.setIfInBounds_toArray, List.set_cons_zero, List.set_cons_succ]
                  refine wpW_val 5 hKS rfl (by kernel_rfl) (by kernel_rfl) (by kernel_rfl) (by kernel_rfl) rfl (fun _ _ _ _ h => h) (.int .i64 i) (fun w' h => by simp [go_sem]) ?_
                  simp only [Act.put, List.setIfInBounds_toArray, List.set_cons_zero, List.set_cons_succ]
                  refine wpW_val 6 hKS rfl (by kernel_rfl) (by kernel_rfl) (by kernel_rfl) (by kernel_rfl) rfl (fun _ _ _ _ h => h) (.pointer (some ⟨bk, ok + i * 5, none⟩)) (fun w' h => by simp [go_sem, hi3]) ?_
                  simp only [Act.put, List.setIfInBounds_toArray, List.set_cons_zero, List.set_cons_succ]
                  refine wpW_val 7 hKS rfl (by kernel_rfl) (by kernel_rfl) (by kernel_rfl) (by kernel_rfl) rfl (fun _ _ _ _ h => h) (.pointer (some ⟨bk, ok + i * 5 + 1, none⟩)) (fun w' h => by simp [go_sem]) ?_
                  simp only [Act.put, List.setIfInBounds_toArray, List.set_cons_zero, List.set_cons_succ]
                  refine wpW_val 8 hKS rfl (by kernel_rfl) (by kernel_rfl) (by kernel_rfl) (by kernel_rfl) rfl (fun _ _ _ _ h => h) (.bool x) (fun w' h => by simp [go_sem, h.2.1]) ?_
                  simp only [Act.put, List.setIfInBounds_toArray, List.set_cons_zero, List.set_cons_succ]
                  refine wpW_val 9 hKS rfl (by kernel_rfl) (by kernel_rfl) (by kernel_rfl) (by kernel_rfl) rfl (fun _ _ _ _ h => h) (.bool (!x)) (fun w' h => by simp [go_sem]) ?_
                  simp only [Act.put, List.setIfInBounds_toArray, List.set_cons_zero, List.set_cons_succ]
                  refine wpW_val 10 hKS rfl (by kernel_rfl) (by kernel_rfl) (by kernel_rfl) (by kernel_rfl) rfl (fun _ _ _ _ h => h) (.pointer (some ⟨bk, ok + i * 5, none⟩)) (fun w' h => by simp [go_sem, hi3]) ?_
                  simp only [Act.put, List.setIfInBounds_toArray, List.set_cons_zero, List.set_cons_succ]
                  refine wpW_val 11 hKS rfl (by kernel_rfl) (by kernel_rfl) (by kernel_rfl) (by kernel_rfl) rfl (fun _ _ _ _ h => h) (.pointer (some ⟨bk, ok + i * 5 + 1, none⟩)) (fun w' h => by simp [go_sem]) ?_
                  simp only [Act.put, List.setIfInBounds_toArray, List.set_cons_zero, List.set_cons_succ]
                  refine wpW_write 12 rfl (by kernel_rfl) (by kernel_rfl) rfl ?_
                  intro wf bf sf
                  have hff := (HROW.out wf sf.1.cw).2.1
                  refine wp_store_bool 4 _ _ rfl rfl rfl sf.2.1 hff (fun w => by simp [go_sem]) ?_
                  simp only [Act.put, List.setIfInBounds_toArray, List.set_cons_zero, List.set_cons_succ]
                  refine wpU_done (by kernel_rfl) ?_
                  intro wg bg _
                  have HLS3 := Lib.hid ((sf.1.bool sf.2.1 hk1 hk2 (!x)).after bg HE8.out)
                  have hls := HLS3.out
                  have d4 : wg.cell? ⟨E, 4, none⟩ = some (.slice (some ⟨bk, ok, none⟩) r3 t3) := (HBX.out _ hls.but).cell 4 rfl
                  have r3' : wg.cell? ⟨bk, ok + i * 5 + 3, none⟩ = some (.slice ka kn kc) := (HROW.out _ hls.cw).2.2
                  clear hKS bf sf hff bg hls hx hfx c2 c3 c4 hbz HLS2
                  go_wp2_with fail
                  go_loopw [10] (fun i wr => ∃ j : Nat, j ≤ kn ∧ i = .int .i64 j ∧ Hid (LS w8 wr w2.heap.size E ⟨cl, ch, m1, r1, t1, m2, r2, t2, some ⟨bk, ok, none⟩, r3, t3⟩ K3)) (fun i _ => kn - (intOf i).toNat)
                  case atStart => exact ⟨0, Nat.zero_le _, rfl, HLS3⟩
                  case round =>
                    obtain ⟨j, hjn, rfl, HLS⟩ := hrel
                    obtain ⟨we, rfl⟩ : ∃ we : World, we = wr := ⟨_, rfl⟩
                    clear HLS3
                    have hls := HLS.out
                    have c2 : we.cell? ⟨E, 2, none⟩ = some (.slice m1 r1 t1) := (HBX.out _ hls.but).cell 2 rfl
                    have c3 : we.cell? ⟨E, 3, none⟩ = some (.slice m2 r2 t2) := (HBX.out _ hls.but).cell 3 rfl
                    have c4 : we.cell? ⟨E, 4, none⟩ = some (.slice (some ⟨bk, ok, none⟩) r3 t3) := (HBX.out _ hls.but).cell 4 rfl
                    have r3' : we.cell? ⟨bk, ok + i * 5 + 3, none⟩ = some (.slice ka kn kc) := by
                      have := (HROW.out _ hls.cw).2.2
                      exact this
                    have htb := HKT.out _ hls.cw
                    clear hls
                    by_cases hj : j < kn
                    · obtain ⟨bj, oj, rfl, hj1, hj2, hj3⟩ : ∃ bj oj, ka = some ⟨bj, oj, none⟩ ∧ w2.heap.size ≤ bj ∧ bj < E ∧ ∀ j, j < kn → (∃ z : Int, we.cell? ⟨bj, oj + j, none⟩ = some (.int .u8 z)) ∧ we.frozen? ⟨bj, oj + j, none⟩ = false := by
                        rcases htb with h0 | h0
                        · omega
                        · exact h0
                      obtain ⟨⟨z, hz⟩, hfz⟩ := hj3 j hj
                      have hm3 : (kn : Int) ≤ 9223372036854775807 := by have := HKM.out; unfold maxLen at this; omega
                      clear hj3 htb
                      go_wp2_with fail
                      go_roundw
                      case rel => exact ⟨j + 1, by omega, by go_num, Lib.hid (HLS.out.byte hz hj1 hj2 _)⟩
                      case measure => simp [intOf]; omega
                    · have hjj : j = kn := by omega
                      subst hjj
                      clear htb
                      go_wp2_with fail
                      go_roundw
                      case rel => exact ⟨i + 1, by omega, by go_num, HLS⟩
                      case measure => simp [intOf]; omega
                · have hii : i = r3 := by omega
                  clear hls
                  have HLS := HLS2
                  have hls := HLS.out
                  have HY := Lib.hid (HB8.out _ hls.but).1
                  have HD := Lib.hid (HB8.out _ hls.but).2.1
                  have HRa := Lib.hid (HB8.out _ hls.but).2.2.1
                  have HRd := Lib.hid (HB8.out _ hls.but).2.2.2.1
                  have HBB := (HB8.out _ hls.but).2.2.2.2
                  clear hls
                  go_wp2_with first | (refine wpList_load_box rfl 25 _ rfl HY.out (by rfl) Tryd.underlying25 rfl (by kernel_rfl) ?_) | (refine wpList_load_box rfl 25 _ rfl HD.out (by rfl) Tryd.underlying25 rfl (by kernel_rfl) ?_)
                  refine (refSame_any s1 s1 ⟨vl1, vh1, p11, pn11, pc11, p12, pn12, pc12, p13, pn13, pc13⟩ ⟨dl, dh, i1, j1, k1, i2, j2, k2, i3, j3, k3⟩ _ HRa.out HRd.out).mono ?_
                  rintro e w9 ⟨rfl, hb9⟩
                  rw [Sx.same_refl]
                  have HB9' := HBB.trans (hb9.mono HBB.size)
                  clear hb9
                  go_wp2_with fail
                  refine (awakeX_any _ (HT.out.after HB9')).mono ?_
                  rintro e w9 ⟨rfl, hb9⟩
                  have HB9 := HB9'.trans (hb9.mono HB9'.size)
                  clear hb9
                  go_wp2_with fail
                  go_ret
                  exact ⟨rfl, HB9⟩

end Go.Proofs.YtcflgoddfakepaaDoor

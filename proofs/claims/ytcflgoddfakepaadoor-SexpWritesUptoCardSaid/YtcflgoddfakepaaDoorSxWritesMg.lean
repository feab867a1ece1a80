/- SexpWrites: the walk. -/
import Derived.Test.YtcflgoddfakepaaDoorSxCutsMg
namespace Go.Proofs.YtcflgoddfakepaaDoor
open Go.RowKit
set_option linter.unusedSimpArgs false
set_option linter.unusedVariables false

/-- the state of the last test -/
structure WS (w : World) (g y : Nat) (u v : SV) (s : Sx) (a : Option Addr) (n c : Nat) (l : List UInt8) : Prop where
  X : Box w g 25 u.cells
  Y : Box w y 25 v.cells
  T : Tab w
  R1 : Rd w u s
  R2 : Rd w v s
  S : Sl w a n c l
theorem WS.after {w w' : World} {g y : Nat} {u v : SV} {s : Sx} {a : Option Addr} {n c : Nat} {l : List UInt8} (h : WS w g y u v s a n c l) (hb : Below w.heap.size w w') : WS w' g y u v s a n c l :=
  ⟨h.X.after hb, h.Y.after hb, h.T.after hb, h.R1.after hb, h.R2.after hb, h.S.after hb⟩
/-- the one that may come up yields a value, in whatever world has come of this one by more memory -/
theorem wpW_oneval {P : Program} {ops : Array Oper} {Q : Exit → Act → World → Prop} {md : Region.Mode} {S : World → Prop} (i : Nat) {ws : List Nat} {oi : Oper} {tl : List Oper} {fuel : Nat} {listed : Array Bool} {a : Act} {w : World} (hi : ops.toList.drop i = oi :: tl) (hr : Region.ready md ops listed = [i]) (hw : ws.contains i = false) (hgd : Region.wanted oi (yielded ops a.tmps) = true)
    (v : Value) (hy : ∀ w1, Below w.heap.size w w1 → S w1 → (execOp a.eval oi).run P w1 = .ok (.value v) w1)
    (h : wpW P md ops Q S ws fuel (listed.setIfInBounds i true) (a.put oi.dst v) w) : wpW P md ops Q S ws (fuel + 1) listed a w :=
  wpW_one i hi hr hw hgd (fun w1 b1 s1 => by
    unfold Oper.wp
    rw [hy w1 b1 s1]
    exact ⟨s1, wpW_more b1 h⟩)

set_option maxHeartbeats 16000000 in
set_option maxRecDepth 100000 in
theorem SexpWrites_walk (v : SV) (s : Sx) (w : World) (htab : Tab w) (h1 : Rd w v s) (b1 : s.nodes < 4611686018427387904) :
    Calls Tryd.prog 6 #[v.val] w fun e w' => e = .returned (.bool true) ∧ Below w.heap.size w w' := by
  obtain ⟨vl1, vh1, p11, pn11, pc11, p12, pn12, pc12, p13, pn13, pc13⟩ := v
  have HR := Lib.hid h1
  have HT := Lib.hid htab
  have HB0 : Below w.heap.size w (w.alloc (.cells #[.bool vl1, .bool vh1, .slice p11 pn11 pc11, .slice p12 pn12 pc12, .slice p13 pn13 pc13] 25)) := (Below.refl _ _).alloc (Nat.le_refl _) _
  have x0 := Lib.hid (Box.new w 25 #[.bool vl1, .bool vh1, .slice p11 pn11 pc11, .slice p12 pn12 pc12, .slice p13 pn13 pc13])
  obtain ⟨g1, hg1⟩ := letter (s.great 0)
  have HG1 := Lib.hid hg1
  have CG1 := Lib.hid (fun w h => great_any s ⟨vl1, vh1, p11, pn11, pc11, p12, pn12, pc12, p13, pn13, pc13⟩ 0 w h (by omega))
  rw [← hg1] at CG1
  clear hg1 h1 htab
  show Calls _ _ #[.agg #[.bool vl1, .bool vh1, .slice p11 pn11 pc11, .slice p12 pn12 pc12, .slice p13 pn13 pc13]] _ _
  go_enter Tryd.func6, Tryd.ntmps6
  go_upto_region 1 with fail
  change Code.wp _ _ _ _ (w.alloc (.cells #[.bool vl1, .bool vh1, .slice p11 pn11 pc11, .slice p12 pn12 pc12, .slice p13 pn13 pc13] 25))
  generalize (w.alloc (.cells #[.bool vl1, .bool vh1, .slice p11 pn11 pc11, .slice p12 pn12 pc12, .slice p13 pn13 pc13] 25)) = w0 at *
  go_wp2_with (refine wpList_load_box rfl 25 _ rfl x0.out (by rfl) Tryd.underlying25 rfl (by kernel_rfl) ?_)
  refine (CG1.out _ (HR.out.after HB0)).mono ?_
  rintro e w1 ⟨rfl, hb1⟩
  have HB1 := HB0.trans (hb1.mono HB0.size)
  have x1 := Lib.hid (x0.out.after hb1)
  clear hb1 x0
  cases g1 with
  | true =>
    go_wp2_with fail
    refine (awakeX_any _ (HT.out.after HB1)).mono ?_
    rintro e w9 ⟨rfl, hb9⟩
    have HB9 := HB1.trans (hb9.mono HB1.size)
    clear hb9
    go_wp2_with fail
    go_ret
    exact ⟨rfl, HB9⟩
  | false =>
    have HW := Lib.hid (great_wide HG1.out.symm)
    have f1 := great_form HG1.out.symm b1
    have CM1 := Lib.hid (fun w h => refMay_any s ⟨vl1, vh1, p11, pn11, pc11, p12, pn12, pc12, p13, pn13, pc13⟩ w h b1 f1.1 f1.2)
    have CY1 := Lib.hid (fun w h ht => may_any s ⟨vl1, vh1, p11, pn11, pc11, p12, pn12, pc12, p13, pn13, pc13⟩ w h 0 HW.out ht)
    obtain ⟨gx, hgx⟩ : ∃ gx, gx = w.heap.size := ⟨_, rfl⟩
    clear f1
    go_wp2_with (refine wpList_load_box rfl 25 _ rfl x1.out (by rfl) Tryd.underlying25 rfl (by kernel_rfl) ?_)
    refine (put_all s ⟨vl1, vh1, p11, pn11, pc11, p12, pn12, pc12, p13, pn13, pc13⟩ _ (HR.out.after HB1) 0 HW.out (HT.out.after HB1)).mono ?_
    rintro e w2 (⟨hyes, q1, rfl, ho1, hb2⟩ | ⟨hno, rfl, hb2⟩)
    case inr =>
      have HB2 := HB1.trans (hb2.mono HB1.size)
      have x2 := Lib.hid (x1.out.after hb2)
      rw [hno] at CM1 CY1
      clear hb2
      go_wp2_with (refine wpList_load_box rfl 25 _ rfl x2.out (by rfl) Tryd.underlying25 rfl (by kernel_rfl) ?_)
      refine (CM1.out _ (HR.out.after HB2)).mono ?_
      rintro e w3 ⟨rfl, hb3⟩
      have HB3 := HB2.trans (hb3.mono HB2.size)
      have x3 := Lib.hid (x2.out.after hb3)
      clear hb3
      go_wp2_with (refine wpList_load_box rfl 25 _ rfl x3.out (by rfl) Tryd.underlying25 rfl (by kernel_rfl) ?_)
      refine (CY1.out _ (HR.out.after HB3) (HT.out.after HB3)).mono ?_
      rintro e w4 ⟨rfl, hb4⟩
      have HB4 := HB3.trans (hb4.mono HB3.size)
      clear hb4
      go_wp2_with fail
      refine (awakeX_any _ (HT.out.after HB4)).mono ?_
      rintro e w9 ⟨rfl, hb9⟩
      have HB9 := HB4.trans (hb9.mono HB4.size)
      clear hb9
      go_wp2_with fail
      go_ret
      exact ⟨rfl, HB9⟩
    obtain ⟨a1, c1, rfl, hs1⟩ := ho1.sl
    have HB2 := HB1.trans (hb2.mono HB1.size)
    have x2 := Lib.hid (x1.out.after hb2)
    have HM := Lib.hid hyes
    have HF4 := Lib.hid (may_parts hyes).2.2.2
    rw [hyes] at CM1
    obtain ⟨F, hF⟩ : ∃ F, F = s.form := ⟨_, rfl⟩
    have HF := Lib.hid hF
    rw [← hF] at hs1 ⊢
    obtain ⟨n1, hn1⟩ : ∃ n1, n1 = F.length := ⟨_, rfl⟩
    have HN := Lib.hid hn1
    have hn4 : n1 ≤ 4096 := by rw [hn1, hF]; exact HF4.out
    rw [← hn1] at hs1 ⊢
    have HS := Lib.hid hs1
    clear ho1 hb2 hyes hF hs1 hn1 HF4
    go_wp2_with (refine wpList_load_box rfl 25 _ rfl x2.out (by rfl) Tryd.underlying25 rfl (by kernel_rfl) ?_)
    refine (CM1.out _ (HR.out.after HB2)).mono ?_
    rintro e w3 ⟨rfl, hb3⟩
    have HB3 := HB2.trans (hb3.mono HB2.size)
    have x3 := Lib.hid (x2.out.after hb3)
    have HS3 := Lib.hid (HS.out.after hb3)
    clear hb3 HS
    go_wp2_with fail
    refine (get_any a1 n1 c1 F _ HS3.out).mono ?_
    rintro e w4 ⟨v2, s2, p, x, hgot, rfl, hr2, hb4⟩
    have hgc : Got F s 0 0 := by rw [HF.out]; exact got_form HM.out
    obtain ⟨rfl, rfl, rfl⟩ := hgc.det hgot
    obtain ⟨vl2, vh2, p21, pn21, pc21, p22, pn22, pc22, p23, pn23, pc23⟩ := v2
    have HQ2 := Lib.hid (hr2.mono (fun _ _ => trivial) : Rd w4 ⟨vl2, vh2, p21, pn21, pc21, p22, pn22, pc22, p23, pn23, pc23⟩ s)
    have HB4 := HB3.trans (hb4.mono HB3.size)
    have x4 := Lib.hid (x3.out.after hb4)
    have HS4 := Lib.hid (HS3.out.after hb4)
    clear hgot hgc hr2 hb4 HS3
    dsimp only
    go_upto_region 7 with ((refine wpList_store_box (cells := #[.bool vl2, .bool vh2, .slice p21 pn21 pc21, .slice p22 pn22 pc22, .slice p23 pn23 pc23]) rfl 25 _ _ rfl (Box.new _ _ _) (by rfl) (by rfl) rfl (by kernel_rfl) (by simp [Value.oneCell']) ?_); intro u1 Y1 st1)
    have HB5 := st1.below w.heap.size w HB4.size (HB4.alloc HB4.size _)
    have b45 := st1.below w4.heap.size w4 (Nat.le_refl _) ((Below.refl _ _).alloc (Nat.le_refl _) _)
    have CF := Lib.hid (fun w h => form_any s ⟨vl1, vh1, p11, pn11, pc11, p12, pn12, pc12, p13, pn13, pc13⟩ w h (by rw [← HF.out, ← HN.out]; omega))
    have WS0 : WS u1 w.heap.size w4.heap.size ⟨vl1, vh1, p11, pn11, pc11, p12, pn12, pc12, p13, pn13, pc13⟩ ⟨vl2, vh2, p21, pn21, pc21, p22, pn22, pc22, p23, pn23, pc23⟩ s a1 n1 c1 F := ⟨x4.out.after b45, Y1, HT.out.after HB5, HR.out.after HB5, HQ2.out.after b45, HS4.out.after b45⟩
    clear HB4 HQ2 Y1 st1 b45 HS4
    generalize w4.heap.size = y at *
    rw [← hgx] at WS0 ⊢
    have hKS : Keeps (fun w' => WS w' gx y ⟨vl1, vh1, p11, pn11, pc11, p12, pn12, pc12, p13, pn13, pc13⟩ ⟨vl2, vh2, p21, pn21, pc21, p22, pn22, pc22, p23, pn23, pc23⟩ s a1 n1 c1 F) := fun w1 w2 h b => h.after b
    refine wp_region_W (w := u1) [] (fun w' => WS w' gx y ⟨vl1, vh1, p11, pn11, pc11, p12, pn12, pc12, p13, pn13, pc13⟩ ⟨vl2, vh2, p21, pn21, pc21, p22, pn22, pc22, p23, pn23, pc23⟩ s a1 n1 c1 F) rfl (WS0.after (Below.refl _ _).drew) ?_
    refine wpW_val 0 hKS rfl (by kernel_rfl) (by kernel_rfl) (by kernel_rfl) (by kernel_rfl) rfl (fun _ _ _ _ h => h) (.agg #[.bool vl1, .bool vh1, .slice p11 pn11 pc11, .slice p12 pn12 pc12, .slice p13 pn13 pc13]) (fun w' h => run_load_box rfl h.X (by rfl) Tryd.underlying25 rfl (by kernel_rfl)) ?_
    simp only [Act.put, List.setIfInBounds_toArray, List.set_cons_zero, List.set_cons_succ]
    refine wpW_call 1 hKS rfl (by kernel_rfl) (by kernel_rfl) (by kernel_rfl) (by kernel_rfl) rfl (fun _ _ _ _ h => h) 18 #[.agg #[.bool vl1, .bool vh1, .slice p11 pn11 pc11, .slice p12 pn12 pc12, .slice p13 pn13 pc13]] (fun w => by simp [go_sem]) (.bool true) (fun w' h => by have := may_any s _ w' h.R1 0 HW.out h.T; rwa [HM.out] at this) ?_
    simp only [Act.put, List.setIfInBounds_toArray, List.set_cons_zero, List.set_cons_succ]
    refine wpW_val 2 hKS rfl (by kernel_rfl) (by kernel_rfl) (by kernel_rfl) (by kernel_rfl) rfl (fun _ _ _ _ h => h) (.bool true) (fun w' h => by simp [go_sem]) ?_
    simp only [Act.put, List.setIfInBounds_toArray, List.set_cons_zero, List.set_cons_succ]
    refine wpW_val 3 hKS rfl (by kernel_rfl) (by kernel_rfl) (by kernel_rfl) (by kernel_rfl) rfl (fun _ _ _ _ h => h) (.int .i64 0) (fun w' h => by simp [go_sem]) ?_
    simp only [Act.put, List.setIfInBounds_toArray, List.set_cons_zero, List.set_cons_succ]
    refine wpW_val 4 hKS rfl (by kernel_rfl) (by kernel_rfl) (by kernel_rfl) (by kernel_rfl) rfl (fun _ _ _ _ h => h) (.bool true) (fun w' h => by simp [go_sem]) ?_
    simp only [Act.put, List.setIfInBounds_toArray, List.set_cons_zero, List.set_cons_succ]
    refine wpW_val 5 hKS rfl (by kernel_rfl) (by kernel_rfl) (by kernel_rfl) (by kernel_rfl) rfl (fun _ _ _ _ h => h) (.bool true) (fun w' h => by simp [go_sem]) ?_
    simp only [Act.put, List.setIfInBounds_toArray, List.set_cons_zero, List.set_cons_succ]
    refine wpW_val 6 hKS rfl (by kernel_rfl) (by kernel_rfl) (by kernel_rfl) (by kernel_rfl) rfl (fun _ _ _ _ h => h) (.bool true) (fun w' h => by simp [go_sem]) ?_
    simp only [Act.put, List.setIfInBounds_toArray, List.set_cons_zero, List.set_cons_succ]
    refine wpW_val 7 hKS rfl (by kernel_rfl) (by kernel_rfl) (by kernel_rfl) (by kernel_rfl) rfl (fun _ _ _ _ h => h) (.slice a1 n1 c1) (fun w' h => by simp [go_sem]) ?_
    simp only [Act.put, List.setIfInBounds_toArray, List.set_cons_zero, List.set_cons_succ]
    refine wpW_val 8 hKS rfl (by kernel_rfl) (by kernel_rfl) (by kernel_rfl) (by kernel_rfl) rfl (fun _ _ _ _ h => h) (.string ⟨F.toArray⟩) (fun w' h => by simp [go_sem, conv_sl h.S]) ?_
    simp only [Act.put, List.setIfInBounds_toArray, List.set_cons_zero, List.set_cons_succ]
    refine wpW_val 9 hKS rfl (by kernel_rfl) (by kernel_rfl) (by kernel_rfl) (by kernel_rfl) rfl (fun _ _ _ _ h => h) (.agg #[.bool vl1, .bool vh1, .slice p11 pn11 pc11, .slice p12 pn12 pc12, .slice p13 pn13 pc13]) (fun w' h => run_load_box rfl h.X (by rfl) Tryd.underlying25 rfl (by kernel_rfl)) ?_
    simp only [Act.put, List.setIfInBounds_toArray, List.set_cons_zero, List.set_cons_succ]
    refine wpW_one 10 rfl (by kernel_rfl) rfl rfl ?_
    intro w6 b6 s6
    refine wp_callR 20 #[.agg #[.bool vl1, .bool vh1, .slice p11 pn11 pc11, .slice p12 pn12 pc12, .slice p13 pn13 pc13]] (by simp [go_sem]) _ (CF.out w6 s6.R1) ?_
    rintro e w7 ⟨v7, rfl, ho7, hb7⟩
    obtain ⟨a7, c7, rfl, hs7⟩ := ho7.sl
    rw [← HF.out] at hs7 ⊢
    rw [← HN.out] at hs7 ⊢
    refine ⟨_, rfl, hKS _ _ s6 hb7, ?_⟩
    simp only [Act.put, List.setIfInBounds_toArray, List.set_cons_zero, List.set_cons_succ]
    refine wpW_oneval 11 rfl (by kernel_rfl) rfl rfl (.string ⟨F.toArray⟩) (fun w1 hb _ => by simp [go_sem, conv_sl (hs7.after hb)]) ?_
    simp only [Act.put, List.setIfInBounds_toArray, List.set_cons_zero, List.set_cons_succ]
    refine wpW_val 12 hKS rfl (by kernel_rfl) (by kernel_rfl) (by kernel_rfl) (by kernel_rfl) rfl (fun _ _ _ _ h => h) (.bool true) (fun w' h => by simp [go_sem]) ?_
    simp only [Act.put, List.setIfInBounds_toArray, List.set_cons_zero, List.set_cons_succ]
    refine wpW_val 13 hKS rfl (by kernel_rfl) (by kernel_rfl) (by kernel_rfl) (by kernel_rfl) rfl (fun _ _ _ _ h => h) (.bool true) (fun w' h => by simp [go_sem]) ?_
    simp only [Act.put, List.setIfInBounds_toArray, List.set_cons_zero, List.set_cons_succ]
    refine wpW_val 14 hKS rfl (by kernel_rfl) (by kernel_rfl) (by kernel_rfl) (by kernel_rfl) rfl (fun _ _ _ _ h => h) (.bool true) (fun w' h => by simp [go_sem]) ?_
    simp only [Act.put, List.setIfInBounds_toArray, List.set_cons_zero, List.set_cons_succ]
    refine wpW_val 15 hKS rfl (by kernel_rfl) (by kernel_rfl) (by kernel_rfl) (by kernel_rfl) rfl (fun _ _ _ _ h => h) (.agg #[.bool vl2, .bool vh2, .slice p21 pn21 pc21, .slice p22 pn22 pc22, .slice p23 pn23 pc23]) (fun w' h => run_load_box rfl h.Y (by rfl) Tryd.underlying25 rfl (by kernel_rfl)) ?_
    simp only [Act.put, List.setIfInBounds_toArray, List.set_cons_zero, List.set_cons_succ]
    refine wpW_val 16 hKS rfl (by kernel_rfl) (by kernel_rfl) (by kernel_rfl) (by kernel_rfl) rfl (fun _ _ _ _ h => h) (.agg #[.bool vl1, .bool vh1, .slice p11 pn11 pc11, .slice p12 pn12 pc12, .slice p13 pn13 pc13]) (fun w' h => run_load_box rfl h.X (by rfl) Tryd.underlying25 rfl (by kernel_rfl)) ?_
    simp only [Act.put, List.setIfInBounds_toArray, List.set_cons_zero, List.set_cons_succ]
    refine wpW_call 17 hKS rfl (by kernel_rfl) (by kernel_rfl) (by kernel_rfl) (by kernel_rfl) rfl (fun _ _ _ _ h => h) 14 #[.agg #[.bool vl2, .bool vh2, .slice p21 pn21 pc21, .slice p22 pn22 pc22, .slice p23 pn23 pc23], .agg #[.bool vl1, .bool vh1, .slice p11 pn11 pc11, .slice p12 pn12 pc12, .slice p13 pn13 pc13]] (fun w => by simp [go_sem]) (.bool true) (fun w' h => by have := refSame_any s s _ _ w' h.R2 h.R1; rwa [Sx.same_refl] at this) ?_
    simp only [Act.put, List.setIfInBounds_toArray, List.set_cons_zero, List.set_cons_succ]
    refine wpW_val 18 hKS rfl (by kernel_rfl) (by kernel_rfl) (by kernel_rfl) (by kernel_rfl) rfl (fun _ _ _ _ h => h) (.bool true) (fun w' h => by simp [go_sem]) ?_
    simp only [Act.put, List.setIfInBounds_toArray, List.set_cons_zero, List.set_cons_succ]
    refine wpW_val 19 hKS rfl (by kernel_rfl) (by kernel_rfl) (by kernel_rfl) (by kernel_rfl) rfl (fun _ _ _ _ h => h) (.bool true) (fun w' h => by simp [go_sem]) ?_
    simp only [Act.put, List.setIfInBounds_toArray, List.set_cons_zero, List.set_cons_succ]
    refine wpW_val 20 hKS rfl (by kernel_rfl) (by kernel_rfl) (by kernel_rfl) (by kernel_rfl) rfl (fun _ _ _ _ h => h) (.int .i64 0) (fun w' h => by simp [go_sem]) ?_
    simp only [Act.put, List.setIfInBounds_toArray, List.set_cons_zero, List.set_cons_succ]
    refine wpW_val 21 hKS rfl (by kernel_rfl) (by kernel_rfl) (by kernel_rfl) (by kernel_rfl) rfl (fun _ _ _ _ h => h) (.bool true) (fun w' h => by simp [go_sem]) ?_
    simp only [Act.put, List.setIfInBounds_toArray, List.set_cons_zero, List.set_cons_succ]
    refine wpW_val 22 hKS rfl (by kernel_rfl) (by kernel_rfl) (by kernel_rfl) (by kernel_rfl) rfl (fun _ _ _ _ h => h) (.bool true) (fun w' h => by simp [go_sem]) ?_
    simp only [Act.put, List.setIfInBounds_toArray, List.set_cons_zero, List.set_cons_succ]
    refine wpW_val 23 hKS rfl (by kernel_rfl) (by kernel_rfl) (by kernel_rfl) (by kernel_rfl) rfl (fun _ _ _ _ h => h) (.bool true) (fun w' h => by simp [go_sem]) ?_
    simp only [Act.put, List.setIfInBounds_toArray, List.set_cons_zero, List.set_cons_succ]
    refine wpW_val 24 hKS rfl (by kernel_rfl) (by kernel_rfl) (by kernel_rfl) (by kernel_rfl) rfl (fun _ _ _ _ h => h) (.int .i64 0) (fun w' h => by simp [go_sem]) ?_
    simp only [Act.put, List.setIfInBounds_toArray, List.set_cons_zero, List.set_cons_succ]
    refine wpW_val 25 hKS rfl (by kernel_rfl) (by kernel_rfl) (by kernel_rfl) (by kernel_rfl) rfl (fun _ _ _ _ h => h) (.bool true) (fun w' h => by simp [go_sem]) ?_
    simp only [Act.put, List.setIfInBounds_toArray, List.set_cons_zero, List.set_cons_succ]
    refine wpW_val 26 hKS rfl (by kernel_rfl) (by kernel_rfl) (by kernel_rfl) (by kernel_rfl) rfl (fun _ _ _ _ h => h) (.bool true) (fun w' h => by simp [go_sem]) ?_
    simp only [Act.put, List.setIfInBounds_toArray, List.set_cons_zero, List.set_cons_succ]
    refine wpW_val 27 hKS rfl (by kernel_rfl) (by kernel_rfl) (by kernel_rfl) (by kernel_rfl) rfl (fun _ _ _ _ h => h) (.bool true) (fun w' h => by simp [go_sem]) ?_
    simp only [Act.put, List.setIfInBounds_toArray, List.set_cons_zero, List.set_cons_succ]
    refine wpW_call 28 hKS rfl (by kernel_rfl) (by kernel_rfl) (by kernel_rfl) (by kernel_rfl) rfl (fun _ _ _ _ h => h) 12 #[] (fun w => by simp [go_sem]) (.bool true) (fun w' h => awakeX_any w' h.T) ?_
    simp only [Act.put, List.setIfInBounds_toArray, List.set_cons_zero, List.set_cons_succ]
    refine wpW_val 29 hKS rfl (by kernel_rfl) (by kernel_rfl) (by kernel_rfl) (by kernel_rfl) rfl (fun _ _ _ _ h => h) (.bool true) (fun w' h => by simp [go_sem]) ?_
    simp only [Act.put, List.setIfInBounds_toArray, List.set_cons_zero, List.set_cons_succ]
    refine wpW_val 30 hKS rfl (by kernel_rfl) (by kernel_rfl) (by kernel_rfl) (by kernel_rfl) rfl (fun _ _ _ _ h => h) (.bool true) (fun w' h => by simp [go_sem]) ?_
    simp only [Act.put, List.setIfInBounds_toArray, List.set_cons_zero, List.set_cons_succ]
    refine wpW_done (by kernel_rfl) ?_
    intro w9 b9 s9
    have HB9 := HB5.trans (((Below.refl _ _).drew.trans ((b6.trans (hb7.mono b6.size)).trans (b9.mono (Nat.le_trans b6.size hb7.size)))).mono HB5.size)
    clear hKS s6 s9 b6 hb7 b9 ho7 hs7 WS0
    go_wp2_with fail
    go_ret
    exact ⟨rfl, HB9⟩

end Go.Proofs.YtcflgoddfakepaaDoor

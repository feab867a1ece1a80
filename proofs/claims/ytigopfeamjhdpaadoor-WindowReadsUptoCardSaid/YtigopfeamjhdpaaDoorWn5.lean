/- WindowWrites, WindowReads. -/
import Derived.Test.YtigopfeamjhdpaaDoorWn2
namespace Go.Proofs.YtigopfeamjhdpaaDoor
open Go.RowKit
set_option linter.unusedSimpArgs false
set_option linter.unusedVariables false

theorem great_wide {s : Sx} (h : s.great 0 = false) : s.wide 0 = false := by
  cases hw : s.wide 0 with
  | false => rfl
  | true => rw [great_yes hw] at h; cases h

set_option maxHeartbeats 16000000 in
set_option maxRecDepth 100000 in
theorem winWrites_walk (x : W4) (w : World) (ht : Tab w) : Calls Tryd.prog 3 #[.agg #[.bool x.p, .int .i64 x.f, .bool x.q, .int .i64 x.t]] w fun e w' => e = .returned (.bool true) ∧ Below w.heap.size w w' := by
  have HT := Lib.hid ht
  have CP := Lib.hid (fun w' => winPut_any x.p x.f x.q x.t w')
  have CM : Hid (∀ w', Calls Tryd.prog 9 #[.agg #[.bool x.p, .int .i64 x.f, .bool x.q, .int .i64 x.t]] w' fun e w'' => e = .returned (.bool x.may) ∧ Below w'.heap.size w' w'') := Lib.hid (fun w' => winMay_any x.p x.f x.q x.t w')
  have CR : Hid (∀ w', Calls Tryd.prog 8 #[.agg #[.bool x.p, .int .i64 x.f, .bool x.q, .int .i64 x.t]] w' fun e w'' => e = .returned (.bool x.may) ∧ Below w'.heap.size w' w'') := Lib.hid (fun w' => refWinMay_any x.p x.f x.q x.t w')
  generalize hmb : x.may = mb at *
  replace hmb := Lib.hid hmb
  have B : Below w.heap.size w (w.alloc (.cells #[.bool x.p, .int .i64 x.f, .bool x.q, .int .i64 x.t] 23)) := (Below.refl _ _).alloc (Nat.le_refl _) _
  have V : Hid (Box (w.alloc (.cells #[.bool x.p, .int .i64 x.f, .bool x.q, .int .i64 x.t] 23)) w.heap.size 23 #[.bool x.p, .int .i64 x.f, .bool x.q, .int .i64 x.t]) := Lib.hid (Box.new _ _ _)
  clear ht
  go_enter Tryd.func3, Tryd.ntmps3
  go_upto_region 1 with fail
  change Code.wp _ _ _ _ (w.alloc (.cells #[.bool x.p, .int .i64 x.f, .bool x.q, .int .i64 x.t] 23))
  generalize (w.alloc (.cells #[.bool x.p, .int .i64 x.f, .bool x.q, .int .i64 x.t] 23)) = x0 at *
  go_wp2_with (refine wpList_load_box rfl 23 _ rfl V.out (by rfl) Tryd.underlying23 rfl (by kernel_rfl) ?_)
  refine (CP.out x0).mono ?_
  rintro e z1 hP
  obtain ⟨⟨tl, th, ta1, tn1, tc1, ta2, tn2, tc2, ta3, tn3, tc3⟩, er, rfl, rt, hk, bz1⟩ := WinP.out (x := x) hP
  rw [hmb.out] at rt hk
  clear hP
  have HK := Lib.hid hk
  have RT := Lib.hid (rt.mono (fun _ _ => trivial))
  clear hk rt
  replace V := Lib.hid (V.out.after bz1)
  replace B := B.trans (bz1.mono B.size)
  clear bz1
  go_upto_region 2 with (refine wpList_store_box (cells := #[.bool tl, .bool th, .slice ta1 tn1 tc1, .slice ta2 tn2 tc2, .slice ta3 tn3 tc3]) rfl 27 _ _ rfl (Box.new _ _ _) (by rfl) (by rfl) rfl (by kernel_rfl) (by simp [Value.oneCell']) ?_; intro u9 X9 st9)
  have bs1 : Below z1.heap.size z1 u9 := st9.below z1.heap.size z1 (Nat.le_refl _) ((Below.refl _ _).alloc (Nat.le_refl _) _)
  have Y3 := Lib.hid X9
  replace V := Lib.hid (V.out.after bs1)
  replace RT := Lib.hid (RT.out.after bs1)
  replace B := B.trans (bs1.mono B.size)
  clear bs1 st9 X9
  generalize u9 = x1 at *
  generalize z1.heap.size = y3 at *
  go_wp2_with (refine wpList_load_box rfl 23 _ rfl V.out (by rfl) Tryd.underlying23 rfl (by kernel_rfl) ?_)
  refine (CR.out x1).mono ?_
  rintro e x2 ⟨rfl, bx2⟩
  replace V := Lib.hid (V.out.after bx2)
  replace RT := Lib.hid (RT.out.after bx2)
  replace Y3 := Lib.hid (Y3.out.after bx2)
  replace B := B.trans (bx2.mono B.size)
  clear bx2
  cases mb with
  | false =>
    obtain rfl : er = 11 := HK.out.elim (fun h => absurd h.2 (by simp)) (fun h => h.1)
    replace RT : Hid (RdI (fun _ => True) _ _ Sx.nil) := RT
    clear HK
    go_wp2_with (refine wpList_load_boxG 23 _ rfl V.out (by rfl) Tryd.underlying23 rfl (by kernel_rfl) rfl ?_)
    refine (CM.out x2).mono ?_
    rintro e x3 ⟨rfl, bx3⟩
    replace V := Lib.hid (V.out.after bx3)
    replace RT := Lib.hid (RT.out.after bx3)
    replace Y3 := Lib.hid (Y3.out.after bx3)
    replace B := B.trans (bx3.mono B.size)
    clear bx3
    go_wp2_with (refine wpList_load_boxG 27 _ rfl Y3.out (by rfl) Tryd.underlying27 rfl (by kernel_rfl) rfl ?_)
    refine (refSame_any Sx.nil Sx.nil ⟨tl, th, ta1, tn1, tc1, ta2, tn2, tc2, ta3, tn3, tc3⟩ SV.nil x3 RT.out (rd_nil _ _)).mono ?_
    rintro e x4 ⟨rfl, bx4⟩
    replace V := Lib.hid (V.out.after bx4)
    replace RT := Lib.hid (RT.out.after bx4)
    replace Y3 := Lib.hid (Y3.out.after bx4)
    replace B := B.trans (bx4.mono B.size)
    clear bx4
    rw [Sx.same_refl]
    go_wp2_with fail
    refine (awake_any x4 (HT.out.after B)).mono ?_
    rintro e x5 ⟨rfl, bx5⟩
    replace V := Lib.hid (V.out.after bx5)
    replace RT := Lib.hid (RT.out.after bx5)
    replace Y3 := Lib.hid (Y3.out.after bx5)
    replace B := B.trans (bx5.mono B.size)
    clear bx5
    go_wp2_with fail
    go_ret
    exact ⟨rfl, B⟩
  | true =>
    obtain rfl : er = 0 := HK.out.elim (fun h => h.1) (fun h => absurd h.2 (by simp))
    replace RT : Hid (RdI (fun _ => True) _ _ (winS x)) := RT
    clear HK
    have HG1 : Hid (winGet (winS x) = some x) := Lib.hid ((winGet_iff _ _).2 ⟨hmb.out, rfl⟩)
    have HG2 : Hid (refWin (winS x) = some x) := Lib.hid (by rw [win_agree _ (bd_win x hmb.out).clean]; exact HG1.out)
    have HW := Lib.hid (wide_win x hmb.out 0 (by omega))
    go_wp2_with (refine wpList_load_box rfl 27 _ rfl Y3.out (by rfl) Tryd.underlying27 rfl (by kernel_rfl) ?_)
    refine (refWinGet_any (winS x) ⟨tl, th, ta1, tn1, tc1, ta2, tn2, tc2, ta3, tn3, tc3⟩ x2 RT.out).mono ?_
    rintro e z2 hP
    obtain ⟨rfl, bz2⟩ : e = .returned (.tuple #[.agg #[.bool x.p, .int .i64 x.f, .bool x.q, .int .i64 x.t], .bool true]) ∧ Below _ _ z2 := by
      rcases hP with ⟨x2, h1, h2, h3⟩ | ⟨h1, _⟩
      · rw [HG2.out] at h1
        obtain rfl := Option.some.inj h1
        exact ⟨h2, h3⟩
      · rw [HG2.out] at h1; cases h1
    clear hP
    replace V := Lib.hid (V.out.after bz2)
    replace RT := Lib.hid (RT.out.after bz2)
    replace Y3 := Lib.hid (Y3.out.after bz2)
    replace B := B.trans (bz2.mono B.size)
    clear bz2
    go_upto_region 5 with (refine wpList_store_box (cells := #[.bool x.p, .int .i64 x.f, .bool x.q, .int .i64 x.t]) rfl 23 _ _ rfl (Box.new _ _ _) (by rfl) (by rfl) rfl (by kernel_rfl) (by simp [Value.oneCell']) ?_; intro u9 X9 st9)
    have bs3 : Below z2.heap.size z2 u9 := st9.below z2.heap.size z2 (Nat.le_refl _) ((Below.refl _ _).alloc (Nat.le_refl _) _)
    have Y5 := Lib.hid X9
    replace V := Lib.hid (V.out.after bs3)
    replace RT := Lib.hid (RT.out.after bs3)
    replace Y3 := Lib.hid (Y3.out.after bs3)
    replace B := B.trans (bs3.mono B.size)
    clear bs3 st9 X9
    generalize u9 = x3 at *
    generalize z2.heap.size = y5 at *
    go_wp2_with (refine wpList_load_box rfl 27 _ rfl Y3.out (by rfl) Tryd.underlying27 rfl (by kernel_rfl) ?_)
    refine (winGet_any (winS x) ⟨tl, th, ta1, tn1, tc1, ta2, tn2, tc2, ta3, tn3, tc3⟩ x3 RT.out 0 HW.out).mono ?_
    rintro e z3 hP
    obtain ⟨rfl, bz3⟩ : e = .returned (.tuple #[.agg #[.bool x.p, .int .i64 x.f, .bool x.q, .int .i64 x.t], .int .i64 0]) ∧ Below _ _ z3 := by
      rcases hP with ⟨x2, h1, h2, h3⟩ | ⟨h1, _⟩
      · rw [HG1.out] at h1
        obtain rfl := Option.some.inj h1
        exact ⟨h2, h3⟩
      · rw [HG1.out] at h1; cases h1
    clear hP
    replace V := Lib.hid (V.out.after bz3)
    replace RT := Lib.hid (RT.out.after bz3)
    replace Y3 := Lib.hid (Y3.out.after bz3)
    replace Y5 := Lib.hid (Y5.out.after bz3)
    replace B := B.trans (bz3.mono B.size)
    clear bz3
    go_upto_region 6 with (refine wpList_store_box (cells := #[.bool x.p, .int .i64 x.f, .bool x.q, .int .i64 x.t]) rfl 23 _ _ rfl (Box.new _ _ _) (by rfl) (by rfl) rfl (by kernel_rfl) (by simp [Value.oneCell']) ?_; intro u9 X9 st9)
    have bs4 : Below z3.heap.size z3 u9 := st9.below z3.heap.size z3 (Nat.le_refl _) ((Below.refl _ _).alloc (Nat.le_refl _) _)
    have Y7 := Lib.hid X9
    replace V := Lib.hid (V.out.after bs4)
    replace RT := Lib.hid (RT.out.after bs4)
    replace Y3 := Lib.hid (Y3.out.after bs4)
    replace Y5 := Lib.hid (Y5.out.after bs4)
    replace B := B.trans (bs4.mono B.size)
    clear bs4 st9 X9
    generalize u9 = x4 at *
    generalize z3.heap.size = y7 at *
    go_wp2_with (refine wpList_load_boxG 23 _ rfl V.out (by rfl) Tryd.underlying23 rfl (by kernel_rfl) rfl ?_)
    refine (CM.out x4).mono ?_
    rintro e x5 ⟨rfl, bx5⟩
    replace V := Lib.hid (V.out.after bx5)
    replace RT := Lib.hid (RT.out.after bx5)
    replace Y3 := Lib.hid (Y3.out.after bx5)
    replace Y5 := Lib.hid (Y5.out.after bx5)
    replace Y7 := Lib.hid (Y7.out.after bx5)
    replace B := B.trans (bx5.mono B.size)
    clear bx5
    go_wp2_with first | (refine wpList_load_boxG 23 _ rfl Y5.out (by rfl) Tryd.underlying23 rfl (by kernel_rfl) rfl ?_) | (refine wpList_load_boxG 23 _ rfl V.out (by rfl) Tryd.underlying23 rfl (by kernel_rfl) rfl ?_) | (refine wpList_load_boxG 23 _ rfl Y7.out (by rfl) Tryd.underlying23 rfl (by kernel_rfl) rfl ?_)
    refine (awake_any x5 (HT.out.after B)).mono ?_
    rintro e x6 ⟨rfl, bx6⟩
    replace V := Lib.hid (V.out.after bx6)
    replace RT := Lib.hid (RT.out.after bx6)
    replace Y3 := Lib.hid (Y3.out.after bx6)
    replace Y5 := Lib.hid (Y5.out.after bx6)
    replace Y7 := Lib.hid (Y7.out.after bx6)
    replace B := B.trans (bx6.mono B.size)
    clear bx6
    go_wp2_with fail
    go_ret
    exact ⟨rfl, B⟩

theorem WindowWrites_walk (p0 : Bool) (f0 : Int) (q0 : Bool) (t0 : Int) (w : World) (ht : Tab w) : Calls Tryd.prog 3 #[.agg #[.bool p0, .int .i64 f0, .bool q0, .int .i64 t0]] w fun e w' => e = .returned (.bool true) ∧ Below w.heap.size w w' :=
  winWrites_walk ⟨p0, f0, q0, t0⟩ w ht

set_option maxHeartbeats 16000000 in
set_option maxRecDepth 100000 in
theorem WindowReads_walk (v : SV) (s : Sx) (w : World) (ht : Tab w) (hr : Rd w v s) (hb : s.nodes < 4611686018427387904) : Calls Tryd.prog 4 #[v.val] w fun e w' => e = .returned (.bool true) ∧ Below w.heap.size w w' := by
  have HRV := Lib.hid hr
  have HT := Lib.hid ht
  have HNB := Lib.hid hb
  have CG := Lib.hid (fun w' h => great_any s v 0 w' h (by omega))
  generalize hgr : s.great 0 = gr at *
  replace hgr := Lib.hid hgr
  obtain ⟨vl, vh, va1, vn1, vc1, va2, vn2, vc2, va3, vn3, vc3⟩ := v
  unfold SV.val
  show Calls _ _ #[.agg #[.bool vl, .bool vh, .slice va1 vn1 vc1, .slice va2 vn2 vc2, .slice va3 vn3 vc3]] _ _
  have B : Below w.heap.size w (w.alloc (.cells #[.bool vl, .bool vh, .slice va1 vn1 vc1, .slice va2 vn2 vc2, .slice va3 vn3 vc3] 27)) := (Below.refl _ _).alloc (Nat.le_refl _) _
  have V : Hid (Box (w.alloc (.cells #[.bool vl, .bool vh, .slice va1 vn1 vc1, .slice va2 vn2 vc2, .slice va3 vn3 vc3] 27)) w.heap.size 27 #[.bool vl, .bool vh, .slice va1 vn1 vc1, .slice va2 vn2 vc2, .slice va3 vn3 vc3]) := Lib.hid (Box.new _ _ _)
  clear hr ht hb
  go_enter Tryd.func4, Tryd.ntmps4
  go_upto_region 1 with fail
  change Code.wp _ _ _ _ (w.alloc (.cells #[.bool vl, .bool vh, .slice va1 vn1 vc1, .slice va2 vn2 vc2, .slice va3 vn3 vc3] 27))
  generalize (w.alloc (.cells #[.bool vl, .bool vh, .slice va1 vn1 vc1, .slice va2 vn2 vc2, .slice va3 vn3 vc3] 27)) = x0 at *
  go_wp2_with (refine wpList_load_box rfl 27 _ rfl V.out (by rfl) Tryd.underlying27 rfl (by kernel_rfl) ?_)
  refine (CG.out x0 (HRV.out.after B)).mono ?_
  rintro e x1 ⟨rfl, bx1⟩
  replace V := Lib.hid (V.out.after bx1)
  replace B := B.trans (bx1.mono B.size)
  clear bx1
  clear CG
  cases gr with
  | true =>
    go_wp2_with fail
    refine (awake_any x1 (HT.out.after B)).mono ?_
    rintro e x2 ⟨rfl, bx2⟩
    replace V := Lib.hid (V.out.after bx2)
    replace B := B.trans (bx2.mono B.size)
    clear bx2
    go_wp2_with fail
    go_ret
    exact ⟨rfl, B⟩
  | false =>
    have hwd := great_wide hgr.out
    have hdp := deep_wide s 0 hwd
    have hfm := form_wide s 0 hwd
    have CM := Lib.hid (fun w' h1 => refMay_any s ⟨vl, vh, va1, vn1, vc1, va2, vn2, vc2, va3, vn3, vc3⟩ w' h1 HNB.out (by omega) (fun h => by omega))
    have CC := Lib.hid (fun w' h1 => winGet_any s ⟨vl, vh, va1, vn1, vc1, va2, vn2, vc2, va3, vn3, vc3⟩ w' h1 0 hwd)
    have CR := Lib.hid (fun w' h1 => refWinGet_any s ⟨vl, vh, va1, vn1, vc1, va2, vn2, vc2, va3, vn3, vc3⟩ w' h1)
    clear hwd hdp hfm hgr
    generalize hmy : s.may = my at *
    replace hmy := Lib.hid hmy
    go_wp2_with (refine wpList_load_boxG 27 _ rfl V.out (by rfl) Tryd.underlying27 rfl (by kernel_rfl) rfl ?_)
    refine (CM.out x1 (HRV.out.after B)).mono ?_
    rintro e x2 ⟨rfl, bx2⟩
    replace V := Lib.hid (V.out.after bx2)
    replace B := B.trans (bx2.mono B.size)
    clear bx2
    cases my with
    | false =>
      go_wp2_with fail
      refine (awake_any x2 (HT.out.after B)).mono ?_
      rintro e x3 ⟨rfl, bx3⟩
      replace V := Lib.hid (V.out.after bx3)
      replace B := B.trans (bx3.mono B.size)
      clear bx3
      go_wp2_with fail
      go_ret
      exact ⟨rfl, B⟩
    | true =>
      have hcl : s.clean = true := by
        have h := hmy.out
        unfold Sx.may at h
        simp only [Bool.and_eq_true] at h
        exact h.1.1.1
      have HA := Lib.hid (win_agree s hcl)
      clear hcl
      go_wp2_with (refine wpList_load_box rfl 27 _ rfl V.out (by rfl) Tryd.underlying27 rfl (by kernel_rfl) ?_)
      refine (CC.out x2 (HRV.out.after B)).mono ?_
      rintro e z1 hP
      rcases hP with ⟨x, h1, rfl, bz1⟩ | ⟨h1, rfl, bz1⟩
      · skip
        have HG := Lib.hid h1
        have HG2 : Hid (refWin s = some x) := Lib.hid (HA.out.trans h1)
        obtain ⟨hm, hs⟩ := (winGet_iff s x).1 h1
        have HM := Lib.hid hm
        have HS := Lib.hid hs
        clear h1 hm hs
        replace V := Lib.hid (V.out.after bz1)
        replace B := B.trans (bz1.mono B.size)
        clear bz1
        go_upto_region 4 with (refine wpList_store_box (cells := #[.bool x.p, .int .i64 x.f, .bool x.q, .int .i64 x.t]) rfl 23 _ _ rfl (Box.new _ _ _) (by rfl) (by rfl) rfl (by kernel_rfl) (by simp [Value.oneCell']) ?_; intro u9 X9 st9)
        have bs3 : Below z1.heap.size z1 u9 := st9.below z1.heap.size z1 (Nat.le_refl _) ((Below.refl _ _).alloc (Nat.le_refl _) _)
        have Y3 := Lib.hid X9
        replace V := Lib.hid (V.out.after bs3)
        replace B := B.trans (bs3.mono B.size)
        clear bs3 st9 X9
        generalize u9 = x3 at *
        generalize z1.heap.size = y3 at *
        go_wp2_with (refine wpList_load_box rfl 27 _ rfl V.out (by rfl) Tryd.underlying27 rfl (by kernel_rfl) ?_)
        refine (CR.out x3 (HRV.out.after B)).mono ?_
        rintro e z2 hP
        obtain ⟨rfl, bz2⟩ : e = .returned (.tuple #[.agg #[.bool x.p, .int .i64 x.f, .bool x.q, .int .i64 x.t], .bool true]) ∧ Below _ _ z2 := by
          rcases hP with ⟨x2, h1, h2, h3⟩ | ⟨h1, _⟩
          · rw [HG2.out] at h1
            obtain rfl := Option.some.inj h1
            exact ⟨h2, h3⟩
          · rw [HG2.out] at h1; cases h1
        clear hP
        replace V := Lib.hid (V.out.after bz2)
        replace Y3 := Lib.hid (Y3.out.after bz2)
        replace B := B.trans (bz2.mono B.size)
        clear bz2
        go_upto_region 5 with (refine wpList_store_box (cells := #[.bool x.p, .int .i64 x.f, .bool x.q, .int .i64 x.t]) rfl 23 _ _ rfl (Box.new _ _ _) (by rfl) (by rfl) rfl (by kernel_rfl) (by simp [Value.oneCell']) ?_; intro u9 X9 st9)
        have bs4 : Below z2.heap.size z2 u9 := st9.below z2.heap.size z2 (Nat.le_refl _) ((Below.refl _ _).alloc (Nat.le_refl _) _)
        have Y5 := Lib.hid X9
        replace V := Lib.hid (V.out.after bs4)
        replace Y3 := Lib.hid (Y3.out.after bs4)
        replace B := B.trans (bs4.mono B.size)
        clear bs4 st9 X9
        generalize u9 = x4 at *
        generalize z2.heap.size = y5 at *
        go_wp2_with (refine wpList_load_box rfl 23 _ rfl Y3.out (by rfl) Tryd.underlying23 rfl (by kernel_rfl) ?_)
        refine (winPut_any x.p x.f x.q x.t x4).mono ?_
        rintro e z3 hP
        obtain ⟨⟨tl, th, ta1, tn1, tc1, ta2, tn2, tc2, ta3, tn3, tc3⟩, er, rfl, rt, hk, bz3⟩ := WinP.out (x := x) hP
        rw [HM.out] at rt hk
        obtain rfl : er = 0 := hk.elim (fun h => h.1) (fun h => absurd h.2 (by simp))
        have RT : Hid (RdI (fun _ => True) _ _ (winS x)) := Lib.hid (rt.mono (fun _ _ => trivial))
        clear hP hk rt
        replace V := Lib.hid (V.out.after bz3)
        replace Y3 := Lib.hid (Y3.out.after bz3)
        replace Y5 := Lib.hid (Y5.out.after bz3)
        replace B := B.trans (bz3.mono B.size)
        clear bz3
        go_upto_region 8 with (refine wpList_store_box (cells := #[.bool tl, .bool th, .slice ta1 tn1 tc1, .slice ta2 tn2 tc2, .slice ta3 tn3 tc3]) rfl 27 _ _ rfl (Box.new _ _ _) (by rfl) (by rfl) rfl (by kernel_rfl) (by simp [Value.oneCell']) ?_; intro u9 X9 st9)
        have bs5 : Below z3.heap.size z3 u9 := st9.below z3.heap.size z3 (Nat.le_refl _) ((Below.refl _ _).alloc (Nat.le_refl _) _)
        have Y7 := Lib.hid X9
        replace V := Lib.hid (V.out.after bs5)
        replace Y3 := Lib.hid (Y3.out.after bs5)
        replace Y5 := Lib.hid (Y5.out.after bs5)
        replace RT := Lib.hid (RT.out.after bs5)
        replace B := B.trans (bs5.mono B.size)
        clear bs5 st9 X9
        generalize u9 = x5 at *
        generalize z3.heap.size = y7 at *
        go_wp2_with first | (refine wpList_load_boxG 23 _ rfl Y3.out (by rfl) Tryd.underlying23 rfl (by kernel_rfl) rfl ?_) | (refine wpList_load_boxG 23 _ rfl Y5.out (by rfl) Tryd.underlying23 rfl (by kernel_rfl) rfl ?_) | (refine wpList_load_boxG 27 _ rfl Y7.out (by rfl) Tryd.underlying27 rfl (by kernel_rfl) rfl ?_) | (refine wpList_load_boxG 27 _ rfl V.out (by rfl) Tryd.underlying27 rfl (by kernel_rfl) rfl ?_)
        refine (refSame_any (winS x) s ⟨tl, th, ta1, tn1, tc1, ta2, tn2, tc2, ta3, tn3, tc3⟩ ⟨vl, vh, va1, vn1, vc1, va2, vn2, vc2, va3, vn3, vc3⟩ x5 RT.out (HRV.out.after B)).mono ?_
        rintro e x6 ⟨rfl, bx6⟩
        replace V := Lib.hid (V.out.after bx6)
        replace Y3 := Lib.hid (Y3.out.after bx6)
        replace Y5 := Lib.hid (Y5.out.after bx6)
        replace RT := Lib.hid (RT.out.after bx6)
        replace Y7 := Lib.hid (Y7.out.after bx6)
        replace B := B.trans (bx6.mono B.size)
        clear bx6
        rw [HS.out, Sx.same_refl]
        go_wp2_with fail
        refine (awake_any x6 (HT.out.after B)).mono ?_
        rintro e x7 ⟨rfl, bx7⟩
        replace V := Lib.hid (V.out.after bx7)
        replace Y3 := Lib.hid (Y3.out.after bx7)
        replace Y5 := Lib.hid (Y5.out.after bx7)
        replace RT := Lib.hid (RT.out.after bx7)
        replace Y7 := Lib.hid (Y7.out.after bx7)
        replace B := B.trans (bx7.mono B.size)
        clear bx7
        go_wp2_with fail
        go_ret
        exact ⟨rfl, B⟩
      · skip
        have HG2 : Hid (refWin s = none) := Lib.hid (HA.out.trans h1)
        clear h1
        replace V := Lib.hid (V.out.after bz1)
        replace B := B.trans (bz1.mono B.size)
        clear bz1
        go_upto_region 4 with (refine wpList_store_box (cells := #[.bool false, .int .i64 0, .bool false, .int .i64 0]) rfl 23 _ _ rfl (Box.new _ _ _) (by rfl) (by rfl) rfl (by kernel_rfl) (by simp [Value.oneCell']) ?_; intro u9 X9 st9)
        have bs3 : Below z1.heap.size z1 u9 := st9.below z1.heap.size z1 (Nat.le_refl _) ((Below.refl _ _).alloc (Nat.le_refl _) _)
        have Y3 := Lib.hid X9
        replace V := Lib.hid (V.out.after bs3)
        replace B := B.trans (bs3.mono B.size)
        clear bs3 st9 X9
        generalize u9 = x3 at *
        generalize z1.heap.size = y3 at *
        go_wp2_with (refine wpList_load_box rfl 27 _ rfl V.out (by rfl) Tryd.underlying27 rfl (by kernel_rfl) ?_)
        refine (CR.out x3 (HRV.out.after B)).mono ?_
        rintro e z2 hP
        obtain ⟨rfl, bz2⟩ : e = .returned (.tuple #[.agg #[.bool false, .int .i64 0, .bool false, .int .i64 0], .bool false]) ∧ Below _ _ z2 := by
          rcases hP with ⟨x2, h1, h2, h3⟩ | ⟨_, h2, h3⟩
          · rw [HG2.out] at h1; cases h1
          · exact ⟨h2, h3⟩
        clear hP
        replace V := Lib.hid (V.out.after bz2)
        replace Y3 := Lib.hid (Y3.out.after bz2)
        replace B := B.trans (bz2.mono B.size)
        clear bz2
        go_upto_region 5 with (refine wpList_store_box (cells := #[.bool false, .int .i64 0, .bool false, .int .i64 0]) rfl 23 _ _ rfl (Box.new _ _ _) (by rfl) (by rfl) rfl (by kernel_rfl) (by simp [Value.oneCell']) ?_; intro u9 X9 st9)
        have bs4 : Below z2.heap.size z2 u9 := st9.below z2.heap.size z2 (Nat.le_refl _) ((Below.refl _ _).alloc (Nat.le_refl _) _)
        have Y5 := Lib.hid X9
        replace V := Lib.hid (V.out.after bs4)
        replace Y3 := Lib.hid (Y3.out.after bs4)
        replace B := B.trans (bs4.mono B.size)
        clear bs4 st9 X9
        generalize u9 = x4 at *
        generalize z2.heap.size = y5 at *
        go_wp2_with (refine wpList_load_boxG 23 _ rfl Y3.out (by rfl) Tryd.underlying23 rfl (by kernel_rfl) rfl ?_)
        refine (awake_any x4 (HT.out.after B)).mono ?_
        rintro e x5 ⟨rfl, bx5⟩
        replace V := Lib.hid (V.out.after bx5)
        replace Y3 := Lib.hid (Y3.out.after bx5)
        replace Y5 := Lib.hid (Y5.out.after bx5)
        replace B := B.trans (bx5.mono B.size)
        clear bx5
        go_wp2_with fail
        go_ret
        exact ⟨rfl, B⟩

end Go.Proofs.YtigopfeamjhdpaaDoor

/- CrlReads, CrlWrites: the walks. -/
import Derived.Test.YticjhogofoffmaaDoorCrQ
import Derived.Test.YticjhogofoffmaaDoorCrR
import Derived.Test.YticjhogofoffmaaDoorCr9
namespace Go.Proofs.YticjhogofoffmaaDoor
open Go.RowKit
set_option linter.unusedSimpArgs false
set_option linter.unusedVariables false

theorem CrlG.out {v : Sx} {w w' : World} {e : Ending} (h : CrlG v w e w') : ∃ (c : Cr) (er : Int) (ka : Option Addr) (kn kc : Nat) (sa : Option Addr) (sn sc : Nat) (Z : Nat → S3), e = .returned (.tuple #[.agg #[.bool c.s, .slice ka kn kc, .slice sa sn sc, .bool c.x.p, .int .i64 c.x.f, .bool c.x.q, .int .i64 c.x.t], .int .i64 er]) ∧ Sl w' ka kn kc c.l ∧ RowS w' sa sn sc Z c.ls ∧ ((er = 0 ∧ crlGet v = some c) ∨ (er = 3 ∧ crlGet v = none ∧ c = ⟨false, [], [], W4.nil⟩)) ∧ Below w.heap.size w w' := by
  rcases h with ⟨c, h1, ka, kn, kc, sa, sn, sc, Z, rfl, h2, h3, h4⟩ | ⟨h1, rfl, h4⟩
  · exact ⟨c, 0, ka, kn, kc, sa, sn, sc, Z, rfl, h2, h3, .inl ⟨rfl, h1⟩, h4⟩
  · exact ⟨⟨false, [], [], W4.nil⟩, 3, none, 0, 0, none, 0, 0, fun _ => ⟨none, 0, 0⟩, rfl, Sl.nil _, ⟨Nat.le_refl _, Nat.zero_le _, fun _ => rfl, rfl, .inl rfl, fun i hi => by cases hi⟩, .inr ⟨rfl, h1, rfl⟩, h4⟩
theorem RCrlP.out {v : Sx} {w w' : World} {e : Ending} (h : RCrlP v w e w') : ∃ (c : Cr) (ka : Option Addr) (kn kc : Nat) (sa : Option Addr) (sn sc : Nat) (Z : Nat → S3), e = .returned (.tuple #[.agg #[.bool c.s, .slice ka kn kc, .slice sa sn sc, .bool c.x.p, .int .i64 c.x.f, .bool c.x.q, .int .i64 c.x.t], .bool (refCrl v).isSome]) ∧ Sl w' ka kn kc c.l ∧ RowS w' sa sn sc Z c.ls ∧ (∀ d, refCrl v = some d → c = d) ∧ Below w.heap.size w w' := by
  rcases h with ⟨c, h1, ka, kn, kc, sa, sn, sc, Z, rfl, h2, h3, h4⟩ | ⟨h1, rfl, h4⟩
  · exact ⟨c, ka, kn, kc, sa, sn, sc, Z, by rw [h1]; rfl, h2, h3, (fun d h => by rw [h1] at h; exact Option.some.inj h), h4⟩
  · exact ⟨⟨false, [], [], W4.nil⟩, none, 0, 0, none, 0, 0, fun _ => ⟨none, 0, 0⟩, by rw [h1]; rfl, Sl.nil _, ⟨Nat.le_refl _, Nat.zero_le _, fun _ => rfl, rfl, .inl rfl, fun i hi => by cases hi⟩, (fun d h => by rw [h1] at h; cases h), h4⟩
theorem rowS_nil (w : World) : RowS w none 0 0 (fun _ => ⟨none, 0, 0⟩) [] := ⟨Nat.le_refl _, Nat.zero_le _, fun _ => rfl, rfl, .inl rfl, fun i hi => by cases hi⟩
theorem great_wide {s : Sx} (h : s.great 0 = false) : s.wide 0 = false := by
  cases hw : s.wide 0 with
  | false => rfl
  | true => rw [great_yes hw] at h; cases h
theorem Cr.short {c : Cr} (h : c.may = true) : c.l.length ≤ 64 ∧ ∀ l ∈ c.ls, l.length ≤ 100000 := by
  obtain ⟨s, l, ls, x⟩ := c
  simp only [Cr.may, Bool.and_eq_true] at h
  obtain ⟨h1, h2, h3⟩ := h
  obtain ⟨h4, h5⟩ := (sumsOk_iff ls).1 h2
  refine ⟨by cases s <;> (simp [keyMay] at h1; simp [h1]), fun k hk => ?_⟩
  have := List.all_eq_true.1 h5 k hk
  simp [keyMay] at this
  omega

set_option maxHeartbeats 16000000 in
set_option maxRecDepth 100000 in
theorem CrlReads_walk (v : SV) (s : Sx) (w : World) (ht : Tab w) (hr : Rd w v s) (hb : s.nodes < 4611686018427387904) : Calls Tryd.prog 5 #[v.val] w fun e w' => e = .returned (.bool true) ∧ Below w.heap.size w w' := by
  have HRV := Lib.hid hr
  have HT := Lib.hid ht
  have HNB := Lib.hid hb
  have CG := Lib.hid (fun w' h => great_any s v 0 w' h (by omega))
  generalize hgr : s.great 0 = gr at *
  replace hgr := Lib.hid hgr
  obtain ⟨vl, vh, va1, vn1, vc1, va2, vn2, vc2, va3, vn3, vc3⟩ := v
  unfold SV.val
  show Calls _ _ #[.agg #[.bool vl, .bool vh, .slice va1 vn1 vc1, .slice va2 vn2 vc2, .slice va3 vn3 vc3]] _ _
  have B : Below w.heap.size w (w.alloc (.cells #[.bool vl, .bool vh, .slice va1 vn1 vc1, .slice va2 vn2 vc2, .slice va3 vn3 vc3] 37)) := (Below.refl _ _).alloc (Nat.le_refl _) _
  have V : Hid (Box (w.alloc (.cells #[.bool vl, .bool vh, .slice va1 vn1 vc1, .slice va2 vn2 vc2, .slice va3 vn3 vc3] 37)) w.heap.size 37 #[.bool vl, .bool vh, .slice va1 vn1 vc1, .slice va2 vn2 vc2, .slice va3 vn3 vc3]) := Lib.hid (Box.new _ _ _)
  clear hr ht hb
  go_enter Tryd.func5, Tryd.ntmps5
  go_upto_region 1 with fail
  change Code.wp _ _ _ _ (w.alloc (.cells #[.bool vl, .bool vh, .slice va1 vn1 vc1, .slice va2 vn2 vc2, .slice va3 vn3 vc3] 37))
  generalize (w.alloc (.cells #[.bool vl, .bool vh, .slice va1 vn1 vc1, .slice va2 vn2 vc2, .slice va3 vn3 vc3] 37)) = x0 at *
  go_wp2_with (refine wpList_load_box rfl 37 _ rfl V.out (by rfl) Tryd.underlying37 rfl (by kernel_rfl) ?_)
  refine (CG.out x0 (HRV.out.after B)).mono ?_
  rintro e x1 ⟨rfl, bx1⟩
  replace V := Lib.hid (V.out.after bx1)
  replace B := B.trans (bx1.mono B.size)
  clear bx1
  clear CG
  cases gr with
  | true =>
    go_wp2_with fail
    refine (awake_any x1 (HT.out.after B)).mono ?_
    rintro e x2 ⟨rfl, bx2⟩
    replace V := Lib.hid (V.out.after bx2)
    replace B := B.trans (bx2.mono B.size)
    clear bx2
    go_wp2_with fail
    go_ret
    exact ⟨rfl, B⟩
  | false =>
    have hwd := great_wide hgr.out
    have hdp := deep_wide s 0 hwd
    have hfm := form_wide s 0 hwd
    have CC := Lib.hid (fun w' h1 h2 => crlGet_any s ⟨vl, vh, va1, vn1, vc1, va2, vn2, vc2, va3, vn3, vc3⟩ w' h1 0 hwd h2)
    have CR := Lib.hid (fun w' h1 => refCrlGet_any s ⟨vl, vh, va1, vn1, vc1, va2, vn2, vc2, va3, vn3, vc3⟩ w' h1 HNB.out (by omega) (fun h => by omega))
    clear hwd hdp hfm hgr
    go_wp2_with (refine wpList_load_box rfl 37 _ rfl V.out (by rfl) Tryd.underlying37 rfl (by kernel_rfl) ?_)
    refine (CC.out x1 (HRV.out.after B) (HT.out.after B)).mono ?_
    rintro e z1 hP
    obtain ⟨c, er, ka, kn, kc, sa, sn, sc, Z, rfl, s1, r1, hc, bz1⟩ := hP.out
    clear hP CC
    have S1 := Lib.hid s1
    have R1 := Lib.hid r1
    have HC := Lib.hid hc
    clear s1 r1 hc
    replace V := Lib.hid (V.out.after bz1)
    replace B := B.trans (bz1.mono B.size)
    clear bz1
    go_upto_region 4 with (refine wpList_store_box (cells := #[.bool c.s, .slice ka kn kc, .slice sa sn sc, .bool c.x.p, .int .i64 c.x.f, .bool c.x.q, .int .i64 c.x.t]) rfl 29 _ _ rfl (Box.new _ _ _) (by rfl) (by rfl) rfl (by kernel_rfl) (by simp [Value.oneCell']) ?_; intro u9 X9 st9)
    have bs2 : Below z1.heap.size z1 u9 := st9.below z1.heap.size z1 (Nat.le_refl _) ((Below.refl _ _).alloc (Nat.le_refl _) _)
    have Y3 := Lib.hid X9
    replace V := Lib.hid (V.out.after bs2)
    replace S1 := Lib.hid (S1.out.after bs2)
    replace R1 := Lib.hid (R1.out.after bs2)
    replace B := B.trans (bs2.mono B.size)
    clear bs2 st9 X9
    generalize u9 = x2 at *
    generalize z1.heap.size = y3 at *
    go_wp2_with (refine wpList_load_box rfl 37 _ rfl V.out (by rfl) Tryd.underlying37 rfl (by kernel_rfl) ?_)
    refine (CR.out x2 (HRV.out.after B)).mono ?_
    rintro e z2 hP
    obtain ⟨c2, la, ln, lc, ta, tn, tc, Z2, rfl, s2, r2, hc2, bz2⟩ := hP.out
    clear hP CR
    have S2 := Lib.hid s2
    have R2 := Lib.hid r2
    have HC2 := Lib.hid hc2
    clear s2 r2 hc2
    rw [crl_agree] at HC2 ⊢
    replace V := Lib.hid (V.out.after bz2)
    replace S1 := Lib.hid (S1.out.after bz2)
    replace R1 := Lib.hid (R1.out.after bz2)
    replace Y3 := Lib.hid (Y3.out.after bz2)
    replace B := B.trans (bz2.mono B.size)
    clear bz2
    go_upto_region 5 with (refine wpList_store_box (cells := #[.bool c2.s, .slice la ln lc, .slice ta tn tc, .bool c2.x.p, .int .i64 c2.x.f, .bool c2.x.q, .int .i64 c2.x.t]) rfl 29 _ _ rfl (Box.new _ _ _) (by rfl) (by rfl) rfl (by kernel_rfl) (by simp [Value.oneCell']) ?_; intro u9 X9 st9)
    have bs3 : Below z2.heap.size z2 u9 := st9.below z2.heap.size z2 (Nat.le_refl _) ((Below.refl _ _).alloc (Nat.le_refl _) _)
    have Y5 := Lib.hid X9
    replace V := Lib.hid (V.out.after bs3)
    replace S1 := Lib.hid (S1.out.after bs3)
    replace R1 := Lib.hid (R1.out.after bs3)
    replace Y3 := Lib.hid (Y3.out.after bs3)
    replace S2 := Lib.hid (S2.out.after bs3)
    replace R2 := Lib.hid (R2.out.after bs3)
    replace B := B.trans (bs3.mono B.size)
    clear bs3 st9 X9
    generalize u9 = x3 at *
    generalize z2.heap.size = y5 at *
    rcases HC.out with ⟨rfl, hg⟩ | ⟨rfl, hg, rfl⟩
    · skip
      have HG := Lib.hid hg
      have HE : Hid (c2 = c) := Lib.hid (HC2.out c hg)
      have HI : Hid (((crlGet s).isSome) = true) := Lib.hid (by rw [hg]; rfl)
      obtain ⟨hm, ht⟩ := (crlGet_iff s c).1 hg
      have HTR := Lib.hid ht
      have HMY := Lib.hid hm
      have hsh := Cr.short hm
      have HL1 := Lib.hid hsh.1
      have HL2 := Lib.hid hsh.2
      clear hg HC HC2 hm ht hsh
      generalize (crlGet s).isSome = is at *
      obtain rfl : is = true := HI.out
      go_wp2_with (refine wpList_load_box rfl 29 _ rfl Y3.out (by rfl) Tryd.underlying29 rfl (by kernel_rfl) ?_)
      refine (crlPut_any c.s ka kn kc c.l sa sn sc Z c.ls c.x.p c.x.f c.x.q c.x.t x3 S1.out (by have := S1.out.1; have := HL1.out; omega) R1.out HL2.out (HT.out.after B)).mono ?_
      rintro e z3 hP
      obtain ⟨⟨tl, th, ta1, tn1, tc1, ta2, tn2, tc2, ta3, tn3, tc3⟩, er2, rfl, rt, hk, bz3⟩ := CrlP.out (c := c) hP
      clear hP
      have HK := Lib.hid hk
      have RT := Lib.hid rt
      clear hk rt
      replace V := Lib.hid (V.out.after bz3)
      replace S1 := Lib.hid (S1.out.after bz3)
      replace R1 := Lib.hid (R1.out.after bz3)
      replace Y3 := Lib.hid (Y3.out.after bz3)
      replace S2 := Lib.hid (S2.out.after bz3)
      replace R2 := Lib.hid (R2.out.after bz3)
      replace Y5 := Lib.hid (Y5.out.after bz3)
      replace B := B.trans (bz3.mono B.size)
      clear bz3
      go_upto_region 8 with (refine wpList_store_box (cells := #[.bool tl, .bool th, .slice ta1 tn1 tc1, .slice ta2 tn2 tc2, .slice ta3 tn3 tc3]) rfl 37 _ _ rfl (Box.new _ _ _) (by rfl) (by rfl) rfl (by kernel_rfl) (by simp [Value.oneCell']) ?_; intro u9 X9 st9)
      have bs4 : Below z3.heap.size z3 u9 := st9.below z3.heap.size z3 (Nat.le_refl _) ((Below.refl _ _).alloc (Nat.le_refl _) _)
      have Y7 := Lib.hid X9
      replace V := Lib.hid (V.out.after bs4)
      replace S1 := Lib.hid (S1.out.after bs4)
      replace R1 := Lib.hid (R1.out.after bs4)
      replace Y3 := Lib.hid (Y3.out.after bs4)
      replace S2 := Lib.hid (S2.out.after bs4)
      replace R2 := Lib.hid (R2.out.after bs4)
      replace Y5 := Lib.hid (Y5.out.after bs4)
      replace RT := Lib.hid (RT.out.after bs4)
      replace B := B.trans (bs4.mono B.size)
      clear bs4 st9 X9
      generalize u9 = x4 at *
      generalize z3.heap.size = y7 at *
      obtain rfl : er2 = 0 := HK.out.elim (fun h => h.1) (fun h => absurd (HMY.out.symm.trans h.2) (by simp))
      rw [HMY.out] at RT
      replace RT : Hid (RdI _ _ _ c.tree) := RT
      rw [← HTR.out] at RT
      clear HK
      go_wp2_with first | (refine wpList_load_boxG 29 _ rfl Y3.out (by rfl) Tryd.underlying29 rfl (by kernel_rfl) rfl ?_) | (refine wpList_load_boxG 29 _ rfl Y5.out (by rfl) Tryd.underlying29 rfl (by kernel_rfl) rfl ?_)
      refine (refCrlSame_any c.s ka kn kc c.l sa sn sc Z c.ls c.x.p c.x.f c.x.q c.x.t c2.s la ln lc c2.l ta tn tc Z2 c2.ls c2.x.p c2.x.f c2.x.q c2.x.t x4 S1.out R1.out S2.out R2.out).mono ?_
      rintro e x5 ⟨rfl, bx5⟩
      replace V := Lib.hid (V.out.after bx5)
      replace S1 := Lib.hid (S1.out.after bx5)
      replace R1 := Lib.hid (R1.out.after bx5)
      replace Y3 := Lib.hid (Y3.out.after bx5)
      replace S2 := Lib.hid (S2.out.after bx5)
      replace R2 := Lib.hid (R2.out.after bx5)
      replace Y5 := Lib.hid (Y5.out.after bx5)
      replace RT := Lib.hid (RT.out.after bx5)
      replace Y7 := Lib.hid (Y7.out.after bx5)
      replace B := B.trans (bx5.mono B.size)
      clear bx5
      rw [show (Cr.mk c.s c.l c.ls ⟨c.x.p, c.x.f, c.x.q, c.x.t⟩).same ⟨c2.s, c2.l, c2.ls, ⟨c2.x.p, c2.x.f, c2.x.q, c2.x.t⟩⟩ = true from by rw [HE.out]; exact Cr.same_refl c]
      go_wp2_with first | (refine wpList_load_boxG 37 _ rfl Y7.out (by rfl) Tryd.underlying37 rfl (by kernel_rfl) rfl ?_) | (refine wpList_load_boxG 37 _ rfl V.out (by rfl) Tryd.underlying37 rfl (by kernel_rfl) rfl ?_)
      refine (refSame_any s s ⟨tl, th, ta1, tn1, tc1, ta2, tn2, tc2, ta3, tn3, tc3⟩ ⟨vl, vh, va1, vn1, vc1, va2, vn2, vc2, va3, vn3, vc3⟩ x5 (RT.out.mono (fun _ _ => trivial)) (HRV.out.after B)).mono ?_
      rintro e x6 ⟨rfl, bx6⟩
      replace V := Lib.hid (V.out.after bx6)
      replace S1 := Lib.hid (S1.out.after bx6)
      replace R1 := Lib.hid (R1.out.after bx6)
      replace Y3 := Lib.hid (Y3.out.after bx6)
      replace S2 := Lib.hid (S2.out.after bx6)
      replace R2 := Lib.hid (R2.out.after bx6)
      replace Y5 := Lib.hid (Y5.out.after bx6)
      replace RT := Lib.hid (RT.out.after bx6)
      replace Y7 := Lib.hid (Y7.out.after bx6)
      replace B := B.trans (bx6.mono B.size)
      clear bx6
      rw [Sx.same_refl]
      go_wp2_with fail
      refine (awake_any x6 (HT.out.after B)).mono ?_
      rintro e x7 ⟨rfl, bx7⟩
      replace V := Lib.hid (V.out.after bx7)
      replace S1 := Lib.hid (S1.out.after bx7)
      replace R1 := Lib.hid (R1.out.after bx7)
      replace Y3 := Lib.hid (Y3.out.after bx7)
      replace S2 := Lib.hid (S2.out.after bx7)
      replace R2 := Lib.hid (R2.out.after bx7)
      replace Y5 := Lib.hid (Y5.out.after bx7)
      replace RT := Lib.hid (RT.out.after bx7)
      replace Y7 := Lib.hid (Y7.out.after bx7)
      replace B := B.trans (bx7.mono B.size)
      clear bx7
      go_wp2_with fail
      go_ret
      exact ⟨rfl, B⟩
    · skip
      have HI : Hid (((crlGet s).isSome) = false) := Lib.hid (by rw [hg]; rfl)
      clear hg HC HC2
      generalize (crlGet s).isSome = is at *
      obtain rfl : is = false := HI.out
      clear S2 R2 Y5
      have s1k := S1.out
      have r1k := R1.out
      clear S1 R1
      have S1 := Lib.hid s1k
      have R1 := Lib.hid r1k
      clear s1k r1k
      go_wp2_with (refine wpList_load_boxG 29 _ rfl Y3.out (by rfl) Tryd.underlying29 rfl (by kernel_rfl) rfl ?_)
      refine (refCrlSame_any false ka kn kc [] sa sn sc Z [] false 0 false 0 false none 0 0 [] none 0 0 (fun _ => ⟨none, 0, 0⟩) [] false 0 false 0 x3 S1.out R1.out (Sl.nil _) (rowS_nil _)).mono ?_
      rintro e z4 ⟨rfl, bz4⟩
      replace V := Lib.hid (V.out.after bz4)
      replace Y3 := Lib.hid (Y3.out.after bz4)
      replace B := B.trans (bz4.mono B.size)
      clear bz4
      rw [show (Cr.mk false [] [] ⟨false, 0, false, 0⟩).same ⟨false, [], [], ⟨false, 0, false, 0⟩⟩ = true from rfl]
      go_wp2_with fail
      refine (awake_any z4 (HT.out.after B)).mono ?_
      rintro e x4 ⟨rfl, bx4⟩
      replace V := Lib.hid (V.out.after bx4)
      replace Y3 := Lib.hid (Y3.out.after bx4)
      replace B := B.trans (bx4.mono B.size)
      clear bx4
      go_wp2_with fail
      go_ret
      exact ⟨rfl, B⟩

set_option maxHeartbeats 16000000 in
set_option maxRecDepth 100000 in
theorem CrlWrites_walk (s : Bool) (ka : Option Addr) (kn kc : Nat) (kl : List UInt8) (a : Option Addr) (n c : Nat) (Z : Nat → S3) (ls : List (List UInt8)) (p : Bool) (f : Int) (q : Bool) (u : Int) (w : World) (ht : Tab w) (hk : Sl w ka kn kc kl) (hr : RowS w a n c Z ls) :
    Calls Tryd.prog 6 #[.agg #[.bool s, .slice ka kn kc, .slice a n c, .bool p, .int .i64 f, .bool q, .int .i64 u]] w fun e w' => e = .returned (.bool true) ∧ Below w.heap.size w w' := by
  have HT := Lib.hid ht
  have HS := Lib.hid hk
  have HR := Lib.hid hr
  have HKN := Lib.hid hk.1
  have HN := Lib.hid hr.2.2.2.1
  have hle : n ≤ c := hr.1
  have hcm : c ≤ maxLen := hr.2.1
  unfold maxLen at hcm
  have hkn0 : kn ≤ 9223372036854775807 := by have h2 := hk.2.1; have h3 := hk.2.2.1; unfold maxLen at h3; omega
  have CG := Lib.hid (fun w' h1 h2 => great_crl s ka kn kc kl a n c Z ls p f q u w' h1 h2)
  have HGR : Hid (greatC kn n ls = false → kn ≤ 200 ∧ n ≤ 40 ∧ ∀ l ∈ ls, l.length ≤ 200) := Lib.hid (fun h => by
    unfold greatC at h
    simp only [Bool.or_eq_false_iff, decide_eq_false_iff_not, Nat.not_lt, List.any_eq_false, decide_eq_true_eq] at h
    exact h)
  generalize greatC kn n ls = gr at *
  have HMD : Hid ((Cr.mk s kl ls ⟨p, f, q, u⟩).may = ((keyMay s kn && (winMay p f q u && decide (n ≤ 16))) && ls.all (fun l => l.length == 64))) := Lib.hid (by
    rw [hk.1, hr.2.2.2.1]
    show (keyMay s kl.length && ((decide (ls.length ≤ 16) && ls.all (fun l => l.length == 64)) && winMay p f q u)) = _
    generalize keyMay s kl.length = b1
    generalize decide (ls.length ≤ 16) = b2
    generalize (ls.all fun l => l.length == 64) = b3
    generalize winMay p f q u = b4
    cases b1 <;> cases b2 <;> cases b3 <;> cases b4 <;> rfl)
  have B : Below w.heap.size w (w.alloc (.cells #[.bool s, .slice ka kn kc, .slice a n c, .bool p, .int .i64 f, .bool q, .int .i64 u] 29)) := (Below.refl _ _).alloc (Nat.le_refl _) _
  have V : Hid (Box (w.alloc (.cells #[.bool s, .slice ka kn kc, .slice a n c, .bool p, .int .i64 f, .bool q, .int .i64 u] 29)) w.heap.size 29 #[.bool s, .slice ka kn kc, .slice a n c, .bool p, .int .i64 f, .bool q, .int .i64 u]) := Lib.hid (Box.new _ _ _)
  clear hr ht hk
  go_enter Tryd.func6, Tryd.ntmps6
  go_upto_region 1 with fail
  change Code.wp _ _ _ _ (w.alloc (.cells #[.bool s, .slice ka kn kc, .slice a n c, .bool p, .int .i64 f, .bool q, .int .i64 u] 29))
  generalize (w.alloc (.cells #[.bool s, .slice ka kn kc, .slice a n c, .bool p, .int .i64 f, .bool q, .int .i64 u] 29)) = x0 at *
  go_wp2_with (refine wpList_load_box rfl 29 _ rfl V.out (by rfl) Tryd.underlying29 rfl (by kernel_rfl) ?_)
  refine (CG.out x0 (HS.out.after B) (HR.out.after B)).mono ?_
  rintro e x1 ⟨rfl, bx1⟩
  replace V := Lib.hid (V.out.after bx1)
  replace B := B.trans (bx1.mono B.size)
  clear bx1
  clear CG
  cases gr with
  | true =>
    go_wp2_with fail
    refine (awake_any x1 (HT.out.after B)).mono ?_
    rintro e x2 ⟨rfl, bx2⟩
    replace V := Lib.hid (V.out.after bx2)
    replace B := B.trans (bx2.mono B.size)
    clear bx2
    go_wp2_with fail
    go_ret
    exact ⟨rfl, B⟩
  | false =>
    obtain ⟨hk2, hn4, hl2⟩ := HGR.out rfl
    have HL2 := Lib.hid hl2
    clear HGR hl2
    have CP := Lib.hid (fun w' h1 h2 h3 => crlPut_any s ka kn kc kl a n c Z ls p f q u w' h1 (by omega) h2 (fun l h => by have := HL2.out l h; omega) h3)
    have CM := Lib.hid (fun w' h1 h2 h3 => crlMay_any s ka kn kc kl a n c Z ls p f q u w' h1 (by omega) h2 (fun l h => by have := HL2.out l h; omega) h3)
    have CK := Lib.hid (fun w' => refKeyMay_any s ka kn kc w' (by omega))
    have CW := Lib.hid (fun w' => refWinMay_any p f q u w')
    generalize keyMay s kn = b1 at *
    generalize winMay p f q u = b2 at *
    obtain ⟨cr, hcr⟩ : ∃ cr : Cr, cr = ⟨s, kl, ls, ⟨p, f, q, u⟩⟩ := ⟨_, rfl⟩
    rw [← hcr] at HMD
    simp only [← hcr] at CP CM
    have HCR := Lib.hid hcr
    clear hcr
    have hq16 : decide ((n : Int) ≤ 16) = decide (n ≤ 16) := by rw [decide_eq_decide]; omega
    generalize hb3 : decide (n ≤ 16) = b3 at *
    replace hb3 := Lib.hid hb3
    go_upto_region 3 with fail
    obtain ⟨r0, hr0⟩ : ∃ r0, r0 = (b1 && (b2 && b3)) := ⟨_, rfl⟩
    rw [← hr0] at HMD
    have HR0 := Lib.hid hr0
    clear hr0 hq16
    go_cut [3] from 14 to 27 (fun s3 wx => s3 = .bool r0 ∧ Box wx w.heap.size 29 #[.bool s, .slice ka kn kc, .slice a n c, .bool p, .int .i64 f, .bool q, .int .i64 u] ∧ Below w.heap.size w wx)
    case first =>
      go_wp2_with (refine wpList_load_midG 24 _ rfl w.heap.size 0 rfl [.bool s, .slice ka kn kc] _ (Box.mid V.out 0 _ (mid2 rfl rfl)) Tryd.underlying24 rfl (by kernel_rfl) rfl ?_)
      refine (CK.out x1).mono ?_
      rintro e x2 ⟨rfl, bx2⟩
      replace V := Lib.hid (V.out.after bx2)
      replace B := B.trans (bx2.mono B.size)
      clear bx2
      cases b1 with
      | false =>
        go_wp2_with fail
        go_meet
        exact ⟨by rw [HR0.out]; rfl, V.out, B⟩
      | true =>
        go_wp2_with (refine wpList_load_midG 27 _ rfl w.heap.size 3 rfl [.bool p, .int .i64 f, .bool q, .int .i64 u] _ (Box.mid V.out 3 _ (mid4 rfl rfl rfl rfl)) Tryd.underlying27 rfl (by kernel_rfl) rfl ?_)
        refine (CW.out x2).mono ?_
        rintro e x3 ⟨rfl, bx3⟩
        replace V := Lib.hid (V.out.after bx3)
        replace B := B.trans (bx3.mono B.size)
        clear bx3
        cases b2 with
        | false =>
          go_wp2_with fail
          go_meet
          exact ⟨by rw [HR0.out]; rfl, V.out, B⟩
        | true =>
          have v2 := V.out.cell 2 rfl
          by_cases h16 : n ≤ 16
          case pos =>
            have h16i : (n : Int) ≤ 16 := by omega
            have hb4 := hb3.out
            rw [decide_eq_true h16] at hb4
            have HB4 := Lib.hid hb4
            clear hb4 h16
            go_wp2_with fail
            go_meet
            exact ⟨by rw [HR0.out, ← HB4.out]; first | rfl | (simp; omega), V.out, B⟩
          case neg =>
            have h16i : ¬ (n : Int) ≤ 16 := by omega
            have hb4 := hb3.out
            rw [decide_eq_false h16] at hb4
            have HB4 := Lib.hid hb4
            clear hb4 h16
            go_wp2_with fail
            go_meet
            exact ⟨by rw [HR0.out, ← HB4.out]; first | rfl | (simp; omega), V.out, B⟩
    case rest =>
      clear V B CK CW HR0
      obtain ⟨rfl, V, B⟩ := hcut
      replace V := Lib.hid V
      go_wp2_with fail
      go_loopw [3, 4] (fun r i wr => ∃ k : Nat, k ≤ n ∧ i = .int .i64 k ∧ r = .bool (r0 && (ls.take k).all (fun l => l.length == 64)) ∧ Box wr w.heap.size 29 #[.bool s, .slice ka kn kc, .slice a n c, .bool p, .int .i64 f, .bool q, .int .i64 u] ∧ Below w.heap.size w wr) (fun _ i _ => n - (intOf i).toNat)
      case atStart => exact ⟨0, Nat.zero_le _, rfl, by simp, V.out, B⟩
      case round =>
        clear V B
        obtain ⟨k, hk, rfl, rfl, V, B⟩ := hrel
        replace V := Lib.hid V
        have v2 := V.out.cell 2 rfl
        generalize hr1 : (r0 && (ls.take k).all (fun l => l.length == 64)) = r1 at *
        replace hr1 := Lib.hid hr1
        by_cases hlt : k < n
        case pos =>
          have hkl : k < ls.length := by have := HN.out; omega
          have hk1 : (k : Int) < n := by omega
          have HSN := Lib.hid (all_snoc (fun l => l.length == 64) ls k hkl)
          cases r1 with
          | false =>
            go_wp2_with fail
            go_roundw
            case rel => exact ⟨k + 1, by omega, by go_num, by rw [HSN.out, ← Bool.and_assoc, hr1.out]; rfl, V.out, B⟩
            case measure => simp [intOf]; omega
          | true =>
            obtain ⟨b, o, rfl, hcl⟩ := (HR.out.after B).cellS hlt
            have hzn := HR.out.2.2.2.2.2 k hkl
            have HZL := Lib.hid hzn.1
            have hzc := hzn.2.1
            have hzm := hzn.2.2.1
            unfold maxLen at hzm
            clear hzn
            by_cases h64 : (Z k).n = 64
            case pos =>
              have h64i : (((Z k).n : Int) == 64) = true := by simp; omega
              have HL := Lib.hid (show ((ls[k]'hkl).length == 64) = true by rw [← HZL.out]; simp [h64])
              clear h64
              go_wp2_with fail
              go_roundw
              case rel => exact ⟨k + 1, by omega, by go_num, by rw [HSN.out, ← Bool.and_assoc, hr1.out]; rw [HL.out]; rfl, V.out, B⟩
              case measure => simp [intOf]; omega
            case neg =>
              have h64i : (((Z k).n : Int) == 64) = false := by simp; omega
              have HL := Lib.hid (show ((ls[k]'hkl).length == 64) = false by rw [← HZL.out]; simp [h64])
              clear h64
              go_wp2_with fail
              go_roundw
              case rel => exact ⟨k + 1, by omega, by go_num, by rw [HSN.out, ← Bool.and_assoc, hr1.out]; rw [HL.out]; rfl, V.out, B⟩
              case measure => simp [intOf]; omega
        case neg =>
          obtain rfl : k = n := by omega
          have hlt2 : ¬ (k : Int) < (k : Int) := by omega
          have HMY : Hid (cr.may = r1) := Lib.hid (by rw [HMD.out, ← hr1.out, List.take_of_length_le (by have := HN.out; omega)])
          clear hr1 hlt
          skip
          go_wp2_with (refine wpList_load_box rfl 29 _ rfl V.out (by rfl) Tryd.underlying29 rfl (by kernel_rfl) ?_)
          refine (CP.out wr (HS.out.after B) (HR.out.after B) (HT.out.after B)).mono ?_
          rintro e z1 hP
          obtain ⟨⟨tl, th, ta1, tn1, tc1, ta2, tn2, tc2, ta3, tn3, tc3⟩, er, rfl, rt, hkk, bz1⟩ := hP.out
          clear hP CP
          have HK := Lib.hid hkk
          have RT := Lib.hid rt
          clear hkk rt
          replace V := Lib.hid (V.out.after bz1)
          replace B := B.trans (bz1.mono B.size)
          clear bz1
          go_upto_region 9 with (refine wpList_store_box (cells := #[.bool tl, .bool th, .slice ta1 tn1 tc1, .slice ta2 tn2 tc2, .slice ta3 tn3 tc3]) rfl 37 _ _ rfl (Box.new _ _ _) (by rfl) (by rfl) rfl (by kernel_rfl) (by simp [Value.oneCell']) ?_; intro u9 X9 st9)
          have bs2 : Below z1.heap.size z1 u9 := st9.below z1.heap.size z1 (Nat.le_refl _) ((Below.refl _ _).alloc (Nat.le_refl _) _)
          have Y5 := Lib.hid X9
          replace V := Lib.hid (V.out.after bs2)
          replace RT := Lib.hid (RT.out.after bs2)
          replace B := B.trans (bs2.mono B.size)
          clear bs2 st9 X9
          generalize u9 = x2 at *
          generalize z1.heap.size = y5 at *
          cases r1 with
          | false =>
            obtain rfl : er = 3 := HK.out.elim (fun h => absurd (HMY.out.symm.trans h.2) (by simp)) (fun h => h.1)
            rw [HMY.out] at RT
            replace RT : Hid (RdI _ _ _ Sx.nil) := RT
            clear HK
            go_wp2_with (refine wpList_load_boxG 29 _ rfl V.out (by rfl) Tryd.underlying29 rfl (by kernel_rfl) rfl ?_)
            refine (CM.out x2 (HS.out.after B) (HR.out.after B) (HT.out.after B)).mono ?_
            rintro e x3 ⟨rfl, bx3⟩
            replace V := Lib.hid (V.out.after bx3)
            replace RT := Lib.hid (RT.out.after bx3)
            replace Y5 := Lib.hid (Y5.out.after bx3)
            replace B := B.trans (bx3.mono B.size)
            clear bx3
            rw [HMY.out]
            go_wp2_with (refine wpList_load_boxG 37 _ rfl Y5.out (by rfl) Tryd.underlying37 rfl (by kernel_rfl) rfl ?_)
            refine (refSame_any Sx.nil Sx.nil ⟨tl, th, ta1, tn1, tc1, ta2, tn2, tc2, ta3, tn3, tc3⟩ SV.nil x3 (RT.out.mono (fun _ _ => trivial)) (rd_nil _ _)).mono ?_
            rintro e x4 ⟨rfl, bx4⟩
            replace V := Lib.hid (V.out.after bx4)
            replace RT := Lib.hid (RT.out.after bx4)
            replace Y5 := Lib.hid (Y5.out.after bx4)
            replace B := B.trans (bx4.mono B.size)
            clear bx4
            rw [Sx.same_refl]
            go_wp2_with fail
            refine (awake_any x4 (HT.out.after B)).mono ?_
            rintro e x5 ⟨rfl, bx5⟩
            replace V := Lib.hid (V.out.after bx5)
            replace RT := Lib.hid (RT.out.after bx5)
            replace Y5 := Lib.hid (Y5.out.after bx5)
            replace B := B.trans (bx5.mono B.size)
            clear bx5
            go_wp2_with fail
            go_ret
            exact ⟨rfl, B⟩
          | true =>
            obtain rfl : er = 0 := HK.out.elim (fun h => h.1) (fun h => absurd (HMY.out.symm.trans h.2) (by simp))
            rw [HMY.out] at RT
            replace RT : Hid (RdI _ _ _ cr.tree) := RT
            clear HK
            obtain ⟨hmt, hwt⟩ := cr.may_tree HMY.out
            have HG1 : Hid (crlGet cr.tree = some cr) := Lib.hid ((crlGet_iff _ _).2 ⟨HMY.out, rfl⟩)
            have HG2 : Hid (refCrl cr.tree = some cr) := Lib.hid ((refCrl_iff _ _).2 ⟨HMY.out, rfl⟩)
            unfold Sx.may at hmt
            simp only [Bool.and_eq_true, decide_eq_true_eq] at hmt
            obtain ⟨⟨⟨_, hm1⟩, hm2⟩, hm3⟩ := hmt
            have CC := Lib.hid (fun w' h1 h2 => crlGet_any cr.tree ⟨tl, th, ta1, tn1, tc1, ta2, tn2, tc2, ta3, tn3, tc3⟩ w' h1 0 hwt h2)
            have CR := Lib.hid (fun w' h1 => refCrlGet_any cr.tree ⟨tl, th, ta1, tn1, tc1, ta2, tn2, tc2, ta3, tn3, tc3⟩ w' h1 (by omega) (by omega) (fun h => by omega))
            clear hwt hm1 hm2 hm3
            go_wp2_with (refine wpList_load_box rfl 37 _ rfl Y5.out (by rfl) Tryd.underlying37 rfl (by kernel_rfl) ?_)
            refine (CR.out x2 (RT.out.mono (fun _ _ => trivial))).mono ?_
            rintro e z2 hP
            obtain ⟨c2, la, ln, lc, ta, tn, tc, Z2, rfl, s2, r2, hc2, bz2⟩ := hP.out
            clear hP CR
            have S2 := Lib.hid s2
            have R2 := Lib.hid r2
            have HE2 : Hid (c2 = cr) := Lib.hid (hc2 _ HG2.out)
            clear s2 r2 hc2
            rw [HG2.out, show (some cr).isSome = true from rfl]
            replace V := Lib.hid (V.out.after bz2)
            replace RT := Lib.hid (RT.out.after bz2)
            replace Y5 := Lib.hid (Y5.out.after bz2)
            replace B := B.trans (bz2.mono B.size)
            clear bz2
            go_upto_region 12 with (refine wpList_store_box (cells := #[.bool c2.s, .slice la ln lc, .slice ta tn tc, .bool c2.x.p, .int .i64 c2.x.f, .bool c2.x.q, .int .i64 c2.x.t]) rfl 29 _ _ rfl (Box.new _ _ _) (by rfl) (by rfl) rfl (by kernel_rfl) (by simp [Value.oneCell']) ?_; intro u9 X9 st9)
            have bs3 : Below z2.heap.size z2 u9 := st9.below z2.heap.size z2 (Nat.le_refl _) ((Below.refl _ _).alloc (Nat.le_refl _) _)
            have Y7 := Lib.hid X9
            replace V := Lib.hid (V.out.after bs3)
            replace RT := Lib.hid (RT.out.after bs3)
            replace Y5 := Lib.hid (Y5.out.after bs3)
            replace S2 := Lib.hid (S2.out.after bs3)
            replace R2 := Lib.hid (R2.out.after bs3)
            replace B := B.trans (bs3.mono B.size)
            clear bs3 st9 X9
            generalize u9 = x3 at *
            generalize z2.heap.size = y7 at *
            go_wp2_with (refine wpList_load_box rfl 37 _ rfl Y5.out (by rfl) Tryd.underlying37 rfl (by kernel_rfl) ?_)
            refine (CC.out x3 (RT.out.mono (fun _ _ => trivial)) (HT.out.after B)).mono ?_
            rintro e z3 hP
            obtain ⟨c3, er3, ma, mn, mc, na, nn, nc, Z3, rfl, s3, r3, hc3, bz3⟩ := hP.out
            clear hP CC
            have S3 := Lib.hid s3
            have R3 := Lib.hid r3
            obtain ⟨rfl, he3⟩ : er3 = 0 ∧ c3 = cr := hc3.elim (fun h => ⟨h.1, by have := h.2; rw [HG1.out] at this; exact (Option.some.inj this).symm⟩) (fun h => absurd (HG1.out.symm.trans h.2.1) (by simp))
            have HE3 := Lib.hid he3
            clear s3 r3 hc3 he3
            replace V := Lib.hid (V.out.after bz3)
            replace RT := Lib.hid (RT.out.after bz3)
            replace Y5 := Lib.hid (Y5.out.after bz3)
            replace S2 := Lib.hid (S2.out.after bz3)
            replace R2 := Lib.hid (R2.out.after bz3)
            replace Y7 := Lib.hid (Y7.out.after bz3)
            replace B := B.trans (bz3.mono B.size)
            clear bz3
            go_upto_region 13 with (refine wpList_store_box (cells := #[.bool c3.s, .slice ma mn mc, .slice na nn nc, .bool c3.x.p, .int .i64 c3.x.f, .bool c3.x.q, .int .i64 c3.x.t]) rfl 29 _ _ rfl (Box.new _ _ _) (by rfl) (by rfl) rfl (by kernel_rfl) (by simp [Value.oneCell']) ?_; intro u9 X9 st9)
            have bs4 : Below z3.heap.size z3 u9 := st9.below z3.heap.size z3 (Nat.le_refl _) ((Below.refl _ _).alloc (Nat.le_refl _) _)
            have Y9 := Lib.hid X9
            replace V := Lib.hid (V.out.after bs4)
            replace RT := Lib.hid (RT.out.after bs4)
            replace Y5 := Lib.hid (Y5.out.after bs4)
            replace S2 := Lib.hid (S2.out.after bs4)
            replace R2 := Lib.hid (R2.out.after bs4)
            replace Y7 := Lib.hid (Y7.out.after bs4)
            replace S3 := Lib.hid (S3.out.after bs4)
            replace R3 := Lib.hid (R3.out.after bs4)
            replace B := B.trans (bs4.mono B.size)
            clear bs4 st9 X9
            generalize u9 = x4 at *
            generalize z3.heap.size = y9 at *
            go_wp2_with (refine wpList_load_boxG 29 _ rfl V.out (by rfl) Tryd.underlying29 rfl (by kernel_rfl) rfl ?_)
            refine (CM.out x4 (HS.out.after B) (HR.out.after B) (HT.out.after B)).mono ?_
            rintro e x5 ⟨rfl, bx5⟩
            replace V := Lib.hid (V.out.after bx5)
            replace RT := Lib.hid (RT.out.after bx5)
            replace Y5 := Lib.hid (Y5.out.after bx5)
            replace S2 := Lib.hid (S2.out.after bx5)
            replace R2 := Lib.hid (R2.out.after bx5)
            replace Y7 := Lib.hid (Y7.out.after bx5)
            replace S3 := Lib.hid (S3.out.after bx5)
            replace R3 := Lib.hid (R3.out.after bx5)
            replace Y9 := Lib.hid (Y9.out.after bx5)
            replace B := B.trans (bx5.mono B.size)
            clear bx5
            rw [HMY.out]
            go_wp2_with first | (refine wpList_load_boxG 29 _ rfl Y7.out (by rfl) Tryd.underlying29 rfl (by kernel_rfl) rfl ?_) | (refine wpList_load_boxG 29 _ rfl V.out (by rfl) Tryd.underlying29 rfl (by kernel_rfl) rfl ?_)
            refine (refCrlSame_any c2.s la ln lc c2.l ta tn tc Z2 c2.ls c2.x.p c2.x.f c2.x.q c2.x.t s ka kn kc kl a k c Z ls p f q u x5 S2.out R2.out (HS.out.after B) (HR.out.after B)).mono ?_
            rintro e x6 ⟨rfl, bx6⟩
            replace V := Lib.hid (V.out.after bx6)
            replace RT := Lib.hid (RT.out.after bx6)
            replace Y5 := Lib.hid (Y5.out.after bx6)
            replace S2 := Lib.hid (S2.out.after bx6)
            replace R2 := Lib.hid (R2.out.after bx6)
            replace Y7 := Lib.hid (Y7.out.after bx6)
            replace S3 := Lib.hid (S3.out.after bx6)
            replace R3 := Lib.hid (R3.out.after bx6)
            replace Y9 := Lib.hid (Y9.out.after bx6)
            replace B := B.trans (bx6.mono B.size)
            clear bx6
            rw [show (Cr.mk c2.s c2.l c2.ls ⟨c2.x.p, c2.x.f, c2.x.q, c2.x.t⟩).same ⟨s, kl, ls, ⟨p, f, q, u⟩⟩ = true from by rw [HE2.out, HCR.out]; exact Cr.same_refl _]
            go_wp2_with first | (refine wpList_load_boxG 29 _ rfl Y9.out (by rfl) Tryd.underlying29 rfl (by kernel_rfl) rfl ?_) | (refine wpList_load_boxG 29 _ rfl V.out (by rfl) Tryd.underlying29 rfl (by kernel_rfl) rfl ?_)
            refine (refCrlSame_any c3.s ma mn mc c3.l na nn nc Z3 c3.ls c3.x.p c3.x.f c3.x.q c3.x.t s ka kn kc kl a k c Z ls p f q u x6 S3.out R3.out (HS.out.after B) (HR.out.after B)).mono ?_
            rintro e x7 ⟨rfl, bx7⟩
            replace V := Lib.hid (V.out.after bx7)
            replace RT := Lib.hid (RT.out.after bx7)
            replace Y5 := Lib.hid (Y5.out.after bx7)
            replace S2 := Lib.hid (S2.out.after bx7)
            replace R2 := Lib.hid (R2.out.after bx7)
            replace Y7 := Lib.hid (Y7.out.after bx7)
            replace S3 := Lib.hid (S3.out.after bx7)
            replace R3 := Lib.hid (R3.out.after bx7)
            replace Y9 := Lib.hid (Y9.out.after bx7)
            replace B := B.trans (bx7.mono B.size)
            clear bx7
            rw [show (Cr.mk c3.s c3.l c3.ls ⟨c3.x.p, c3.x.f, c3.x.q, c3.x.t⟩).same ⟨s, kl, ls, ⟨p, f, q, u⟩⟩ = true from by rw [HE3.out, HCR.out]; exact Cr.same_refl _]
            go_wp2_with fail
            refine (awake_any x7 (HT.out.after B)).mono ?_
            rintro e x8 ⟨rfl, bx8⟩
            replace V := Lib.hid (V.out.after bx8)
            replace RT := Lib.hid (RT.out.after bx8)
            replace Y5 := Lib.hid (Y5.out.after bx8)
            replace S2 := Lib.hid (S2.out.after bx8)
            replace R2 := Lib.hid (R2.out.after bx8)
            replace Y7 := Lib.hid (Y7.out.after bx8)
            replace S3 := Lib.hid (S3.out.after bx8)
            replace R3 := Lib.hid (R3.out.after bx8)
            replace Y9 := Lib.hid (Y9.out.after bx8)
            replace B := B.trans (bx8.mono B.size)
            clear bx8
            go_wp2_with fail
            go_ret
            exact ⟨rfl, B⟩

end Go.Proofs.YticjhogofoffmaaDoor

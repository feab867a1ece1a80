/- A list of canceled ones put: the program's crl.Put, crl.May. -/
import Derived.Test.YticjhogofoffmaaDoorCrP
import Derived.Deep.CutRange
namespace Go.Proofs.YticjhogofoffmaaDoor
open Go.RowKit
set_option linter.unusedSimpArgs false
set_option linter.unusedVariables false

theorem or_zero {p : Bool} {f : Int} {A : Prop} (h : (p = true ∧ A) ∨ (p = false ∧ f = 0)) (hp : p = false) : f = 0 := h.elim (fun h => absurd (hp.symm.trans h.1) (by simp)) (fun h => h.2)
/-- a value that is there, or none -/
noncomputable def orNil (b : Bool) (s : Sx) : Sx := if b then s else Sx.nil
theorem KeyP.out {s : Bool} {l : List UInt8} {w w' : World} {e : Ending} (h : KeyP s l w e w') : ∃ (v : SV) (er : Int), e = .returned (.tuple #[.agg #[.bool v.l, .bool v.h, .slice v.a1 v.n1 v.c1, .slice v.a2 v.n2 v.c2, .slice v.a3 v.n3 v.c3], .int .i64 er]) ∧ RdI (fun b => w.heap.size ≤ b) w' v (orNil (keyMay s l.length) (keyS s l)) ∧ ((er = 0 ∧ keyMay s l.length = true) ∨ (er = 7 ∧ keyMay s l.length = false)) ∧ Below w.heap.size w w' := by
  rcases h with ⟨h1, v, rfl, h2, h3⟩ | ⟨h1, rfl, h3⟩
  · exact ⟨v, 0, rfl, by rw [h1]; exact h2, .inl ⟨rfl, h1⟩, h3⟩
  · exact ⟨SV.nil, 7, rfl, by rw [h1]; exact rd_nil _ _, .inr ⟨rfl, h1⟩, h3⟩
theorem SumsP.out {ls : List (List UInt8)} {w w' : World} {e : Ending} (h : SumsP ls w e w') : ∃ (v : SV), e = .returned (.tuple #[.agg #[.bool v.l, .bool v.h, .slice v.a1 v.n1 v.c1, .slice v.a2 v.n2 v.c2, .slice v.a3 v.n3 v.c3], .bool (sumsOk ls)]) ∧ RdI (fun b => w.heap.size ≤ b) w' v (orNil (sumsOk ls) (li (sumsK ls))) ∧ Below w.heap.size w w' := by
  rcases h with ⟨h1, v, rfl, h2, h3⟩ | ⟨h1, rfl, h3⟩
  · exact ⟨v, by rw [h1], by rw [h1]; exact h2, h3⟩
  · exact ⟨SV.nil, by rw [h1]; rfl, by rw [h1]; exact rd_nil _ _, h3⟩
theorem WinP.out {x : W4} {w w' : World} {e : Ending} (h : WinP x w e w') : ∃ (v : SV) (er : Int), e = .returned (.tuple #[.agg #[.bool v.l, .bool v.h, .slice v.a1 v.n1 v.c1, .slice v.a2 v.n2 v.c2, .slice v.a3 v.n3 v.c3], .int .i64 er]) ∧ RdI (fun b => w.heap.size ≤ b) w' v (orNil x.may (winS x)) ∧ ((er = 0 ∧ x.may = true) ∨ (er = 11 ∧ x.may = false)) ∧ Below w.heap.size w w' := by
  rcases h with ⟨h1, v, rfl, h2, h3⟩ | ⟨h1, rfl, h3⟩
  · exact ⟨v, 0, rfl, by rw [h1]; exact h2, .inl ⟨rfl, h1⟩, h3⟩
  · exact ⟨SV.nil, 11, rfl, by rw [h1]; exact rd_nil _ _, .inr ⟨rfl, h1⟩, h3⟩
/-- what putting a list answers -/
def CrlP (c : Cr) (w : World) (e : Ending) (w' : World) : Prop :=
  (c.may = true ∧ PutQ c.tree (.int .i64 0) w e w') ∨ (c.may = false ∧ e = .returned (.tuple #[.agg #[.bool false, .bool false, .slice none 0 0, .slice none 0 0, .slice none 0 0], .int .i64 3]) ∧ Below w.heap.size w w')
/-- the list's value, before the window -/
def CutC (w0 q : World) (B : Nat) (T : TypeId) (ts : List Sx) (v : Value) (w' : World) : Prop :=
  ∃ (g : Nat) (ta : Option Addr) (tc : Nat) (K : Nat → SV), v = .pointer (some ⟨g, 0, none⟩) ∧ q.heap.size ≤ g ∧ Box w' g T #[.bool true, .bool false, .slice none 0 0, .slice none 0 0, .slice ta 3 tc] ∧ OwnG w' B 5 (.slice ta 3 tc) 3 (newsK K 3) ∧
    (∀ b, (Value.slice ta 3 tc).ownBlock = some b → b ≠ g ∧ q.heap.size ≤ b) ∧ (∀ i (hi : i < ts.length), RdI (okO (fun b => (w0.heap.size ≤ b ∧ b ≠ w0.heap.size + 1) ∧ b ≠ g) (.slice ta 3 tc)) w' (K i) ts[i]) ∧ Below q.heap.size q w'

set_option maxHeartbeats 16000000 in
set_option maxRecDepth 100000 in
theorem crlPut_any (s : Bool) (a : Option Addr) (n c : Nat) (l : List UInt8) (sa : Option Addr) (sn sc : Nat) (Z : Nat → S3) (ls : List (List UInt8)) (p : Bool) (f : Int) (q : Bool) (t : Int) (w : World) (hs : Sl w a n c l) (hn : n ≤ 100000) (hr : RowS w sa sn sc Z ls) (hl : ∀ l ∈ ls, l.length ≤ 100000) (ht : Tab w) : Calls Tryd.prog 16 #[.agg #[.bool s, .slice a n c, .slice sa sn sc, .bool p, .int .i64 f, .bool q, .int .i64 t]] w (CrlP ⟨s, l, ls, ⟨p, f, q, t⟩⟩ w) := by
  have HR := Lib.hid hr
  have HL := Lib.hid hl
  have B : Below w.heap.size w ((w.alloc (.cells #[.bool s, .slice a n c, .slice sa sn sc, .bool p, .int .i64 f, .bool q, .int .i64 t] 29)).alloc (.cells #[.bool false, .bool false, .slice none 0 0, .slice none 0 0, .slice none 0 0] 37)) := ((Below.refl _ _).alloc (Nat.le_refl _) _).alloc (by simp) _
  have K : Hid (Box ((w.alloc (.cells #[.bool s, .slice a n c, .slice sa sn sc, .bool p, .int .i64 f, .bool q, .int .i64 t] 29)).alloc (.cells #[.bool false, .bool false, .slice none 0 0, .slice none 0 0, .slice none 0 0] 37)) w.heap.size 29 #[.bool s, .slice a n c, .slice sa sn sc, .bool p, .int .i64 f, .bool q, .int .i64 t]) := Lib.hid ((Box.new _ _ _).alloc _)
  have X : Hid (Box ((w.alloc (.cells #[.bool s, .slice a n c, .slice sa sn sc, .bool p, .int .i64 f, .bool q, .int .i64 t] 29)).alloc (.cells #[.bool false, .bool false, .slice none 0 0, .slice none 0 0, .slice none 0 0] 37)) (w.heap.size + 1) 37 #[.bool false, .bool false, .slice none 0 0, .slice none 0 0, .slice none 0 0]) := Lib.hid (by
    have := Box.new (w.alloc (.cells #[.bool s, .slice a n c, .slice sa sn sc, .bool p, .int .i64 f, .bool q, .int .i64 t] 29)) 37 #[.bool false, .bool false, .slice none 0 0, .slice none 0 0, .slice none 0 0]
    simpa using this)
  have HT0 := Lib.hid ht
  replace hs := Lib.hid (hs.after B)
  replace ht := Lib.hid (ht.after B)
  have HM := Lib.hid (show (Cr.mk s l ls ⟨p, f, q, t⟩).may = (keyMay s l.length && (sumsOk ls && (W4.mk p f q t).may)) from rfl)
  have HT := Lib.hid ((Cr.mk s l ls ⟨p, f, q, t⟩).may_tree)
  have HTR := Lib.hid (show (Cr.mk s l ls ⟨p, f, q, t⟩).tree = li ([at1 crL, li [at1 isL, keyS s l], li (sumsK ls)] ++ if p || q then [winS ⟨p, f, q, t⟩] else []) from rfl)
  have HWI := Lib.hid ((winMay_iff ⟨p, f, q, t⟩).1)
  dsimp only at HWI
  generalize (Cr.mk s l ls ⟨p, f, q, t⟩) = cr at *
  obtain ⟨xw, hxw⟩ : ∃ xw : W4, xw = ⟨p, f, q, t⟩ := ⟨_, rfl⟩
  rw [← hxw] at HM HTR HWI
  have HXW := Lib.hid hxw
  clear hxw hr hl
  go_enter Tryd.func16, Tryd.ntmps16
  go_upto_region 1 with fail
  change Code.wp _ _ _ _ ((w.alloc (.cells #[.bool s, .slice a n c, .slice sa sn sc, .bool p, .int .i64 f, .bool q, .int .i64 t] 29)).alloc (.cells #[.bool false, .bool false, .slice none 0 0, .slice none 0 0, .slice none 0 0] 37))
  generalize ((w.alloc (.cells #[.bool s, .slice a n c, .slice sa sn sc, .bool p, .int .i64 f, .bool q, .int .i64 t] 29)).alloc (.cells #[.bool false, .bool false, .slice none 0 0, .slice none 0 0, .slice none 0 0] 37)) = x0 at *
  go_wp2_with (refine wpList_load_mid rfl 24 _ rfl w.heap.size 0 rfl [.bool s, .slice a n c] _ (Box.mid K.out 0 _ (mid2 rfl rfl)) Tryd.underlying24 rfl (by kernel_rfl) ?_)
  refine (keyPut_any s a n c l x0 hs.out hn).mono ?_
  rintro e kw hP
  obtain ⟨⟨kl, kh, ka1, kn1, kc1, ka2, kn2, kc2, ka3, kn3, kc3⟩, er1, rfl, rk, hk, bx1⟩ := hP.out
  clear hP
  have HK := Lib.hid hk
  clear hk
  replace rk : Hid (RdI (fun b => w.heap.size ≤ b ∧ b ≠ w.heap.size + 1) kw ⟨kl, kh, ka1, kn1, kc1, ka2, kn2, kc2, ka3, kn3, kc3⟩ _) := Lib.hid (rk.mono (fun b hb => by have := X.out.lt; show w.heap.size ≤ b ∧ b ≠ w.heap.size + 1; omega))
  clear hs
  replace K := Lib.hid (K.out.after bx1)
  replace X := Lib.hid (X.out.after bx1)
  replace ht := Lib.hid (ht.out.after bx1)
  replace B := B.trans (bx1.mono B.size)
  clear bx1
  go_upto_region 2 with (refine wpList_store_box (cells := #[.bool kl, .bool kh, .slice ka1 kn1 kc1, .slice ka2 kn2 kc2, .slice ka3 kn3 kc3]) rfl 37 _ _ rfl (Box.new _ _ _) (by rfl) (by rfl) rfl (by kernel_rfl) (by simp [Value.oneCell']) ?_; intro u9 X9 st9)
  have bs1 : Below kw.heap.size kw u9 := st9.below kw.heap.size kw (Nat.le_refl _) ((Below.refl _ _).alloc (Nat.le_refl _) _)
  have Yk := Lib.hid X9
  replace K := Lib.hid (K.out.after bs1)
  replace X := Lib.hid (X.out.after bs1)
  replace ht := Lib.hid (ht.out.after bs1)
  replace rk := Lib.hid (rk.out.after bs1)
  replace B := B.trans (bs1.mono B.size)
  clear bs1 st9 X9
  generalize u9 = x1 at *
  generalize kw.heap.size = yk at *
  have kf := K.out.cell 2 rfl
  go_wp2_with fail
  clear kf
  refine (sums_any sa sn sc Z ls x1 (HR.out.after B) HL.out).mono ?_
  rintro e z1 hP
  obtain ⟨⟨sl, sh, sa1, sn1, sc1, sa2, sn2, sc2, sa3, sn3, sc3⟩, rfl, rs, bz1⟩ := hP.out
  clear hP
  replace rs : Hid (RdI (fun b => w.heap.size ≤ b ∧ b ≠ w.heap.size + 1) z1 ⟨sl, sh, sa1, sn1, sc1, sa2, sn2, sc2, sa3, sn3, sc3⟩ _) := Lib.hid (rs.mono (fun b hb => by have := X.out.lt; show w.heap.size ≤ b ∧ b ≠ w.heap.size + 1; omega))
  generalize hso : sumsOk ls = so at *
  have HSO := Lib.hid hso
  clear hso
  replace K := Lib.hid (K.out.after bz1)
  replace X := Lib.hid (X.out.after bz1)
  replace ht := Lib.hid (ht.out.after bz1)
  replace rk := Lib.hid (rk.out.after bz1)
  replace Yk := Lib.hid (Yk.out.after bz1)
  replace B := B.trans (bz1.mono B.size)
  clear bz1
  go_upto_region 3 with (refine wpList_store_box (cells := #[.bool sl, .bool sh, .slice sa1 sn1 sc1, .slice sa2 sn2 sc2, .slice sa3 sn3 sc3]) rfl 37 _ _ rfl (Box.new _ _ _) (by rfl) (by rfl) rfl (by kernel_rfl) (by simp [Value.oneCell']) ?_; intro u9 X9 st9)
  have bs2 : Below z1.heap.size z1 u9 := st9.below z1.heap.size z1 (Nat.le_refl _) ((Below.refl _ _).alloc (Nat.le_refl _) _)
  have Ys := Lib.hid X9
  replace K := Lib.hid (K.out.after bs2)
  replace X := Lib.hid (X.out.after bs2)
  replace ht := Lib.hid (ht.out.after bs2)
  replace rk := Lib.hid (rk.out.after bs2)
  replace Yk := Lib.hid (Yk.out.after bs2)
  replace rs := Lib.hid (rs.out.after bs2)
  replace B := B.trans (bs2.mono B.size)
  clear bs2 st9 X9
  generalize u9 = x2 at *
  generalize z1.heap.size = ys at *
  go_wp2_with (refine wpList_load_mid rfl 27 _ rfl w.heap.size 3 rfl [.bool p, .int .i64 f, .bool q, .int .i64 t] _ (Box.mid K.out 3 _ (mid4 rfl rfl rfl rfl)) Tryd.underlying27 rfl (by kernel_rfl) ?_)
  refine (winPut_any p f q t x2).mono ?_
  rintro e z2 hP
  rw [← HXW.out] at hP
  obtain ⟨⟨vl, vh, va1, vn1, vc1, va2, vn2, vc2, va3, vn3, vc3⟩, er2, rfl, rv, hk, bz2⟩ := hP.out
  clear hP
  have HV := Lib.hid hk
  clear hk
  replace rv : Hid (RdI (fun b => w.heap.size ≤ b ∧ b ≠ w.heap.size + 1) z2 ⟨vl, vh, va1, vn1, vc1, va2, vn2, vc2, va3, vn3, vc3⟩ _) := Lib.hid (rv.mono (fun b hb => by have := X.out.lt; show w.heap.size ≤ b ∧ b ≠ w.heap.size + 1; omega))
  replace K := Lib.hid (K.out.after bz2)
  replace X := Lib.hid (X.out.after bz2)
  replace ht := Lib.hid (ht.out.after bz2)
  replace rk := Lib.hid (rk.out.after bz2)
  replace Yk := Lib.hid (Yk.out.after bz2)
  replace rs := Lib.hid (rs.out.after bz2)
  replace Ys := Lib.hid (Ys.out.after bz2)
  replace B := B.trans (bz2.mono B.size)
  clear bz2
  go_upto_region 4 with (refine wpList_store_box (cells := #[.bool vl, .bool vh, .slice va1 vn1 vc1, .slice va2 vn2 vc2, .slice va3 vn3 vc3]) rfl 37 _ _ rfl (Box.new _ _ _) (by rfl) (by rfl) rfl (by kernel_rfl) (by simp [Value.oneCell']) ?_; intro u9 X9 st9)
  have bs3 : Below z2.heap.size z2 u9 := st9.below z2.heap.size z2 (Nat.le_refl _) ((Below.refl _ _).alloc (Nat.le_refl _) _)
  have Yv := Lib.hid X9
  replace K := Lib.hid (K.out.after bs3)
  replace X := Lib.hid (X.out.after bs3)
  replace ht := Lib.hid (ht.out.after bs3)
  replace rk := Lib.hid (rk.out.after bs3)
  replace Yk := Lib.hid (Yk.out.after bs3)
  replace rs := Lib.hid (rs.out.after bs3)
  replace Ys := Lib.hid (Ys.out.after bs3)
  replace rv := Lib.hid (rv.out.after bs3)
  replace B := B.trans (bs3.mono B.size)
  clear bs3 st9 X9
  generalize u9 = x3 at *
  generalize z2.heap.size = yv at *
  rcases HK.out with ⟨rfl, hk⟩ | ⟨rfl, hk⟩
  rotate_left
  · skip
    replace hk := Lib.hid hk
    have HF : Hid (cr.may = false) := Lib.hid (by rw [HM.out]; rw [hk.out]; rfl)
    clear rk rs rv Yk Ys Yv HK HV
    go_wp2_with (refine wpList_store_box (cells := #[.bool false, .bool false, .slice none 0 0, .slice none 0 0, .slice none 0 0]) rfl 37 _ _ rfl X.out (by rfl) (by rfl) rfl (by kernel_rfl) (by simp [Value.oneCell']) ?_; intro u9 X9 st9)
    have B9 := st9.below w.heap.size w (by omega) B
    exact bodyPost_ret (v := .tuple #[.agg #[.bool false, .bool false, .slice none 0 0, .slice none 0 0, .slice none 0 0], .int .i64 3]) (box_result2 (p := 2) (q := 3) rfl _ _ (by rfl) X9 Tryd.underlying37 rfl (by kernel_rfl)) rfl (.inr ⟨HF.out, rfl, B9⟩)
  replace hk := Lib.hid hk
  cases so with
  | false =>
    have HF : Hid (cr.may = false) := Lib.hid (by rw [HM.out]; simp)
    clear rk rs rv Yk Ys Yv HK HV
    go_wp2_with (refine wpList_store_box (cells := #[.bool false, .bool false, .slice none 0 0, .slice none 0 0, .slice none 0 0]) rfl 37 _ _ rfl X.out (by rfl) (by rfl) rfl (by kernel_rfl) (by simp [Value.oneCell']) ?_; intro u9 X9 st9)
    have B9 := st9.below w.heap.size w (by omega) B
    exact bodyPost_ret (v := .tuple #[.agg #[.bool false, .bool false, .slice none 0 0, .slice none 0 0, .slice none 0 0], .int .i64 3]) (box_result2 (p := 2) (q := 3) rfl _ _ (by rfl) X9 Tryd.underlying37 rfl (by kernel_rfl)) rfl (.inr ⟨HF.out, rfl, B9⟩)
  | true =>
    rcases HV.out with ⟨rfl, hv⟩ | ⟨rfl, hv⟩
    rotate_left
    · skip
      replace hv := Lib.hid hv
      have HF : Hid (cr.may = false) := Lib.hid (by rw [HM.out]; rw [hv.out]; simp)
      clear rk rs rv Yk Ys Yv HK HV
      go_wp2_with (refine wpList_store_box (cells := #[.bool false, .bool false, .slice none 0 0, .slice none 0 0, .slice none 0 0]) rfl 37 _ _ rfl X.out (by rfl) (by rfl) rfl (by kernel_rfl) (by simp [Value.oneCell']) ?_; intro u9 X9 st9)
      have B9 := st9.below w.heap.size w (by omega) B
      exact bodyPost_ret (v := .tuple #[.agg #[.bool false, .bool false, .slice none 0 0, .slice none 0 0, .slice none 0 0], .int .i64 3]) (box_result2 (p := 2) (q := 3) rfl _ _ (by rfl) X9 Tryd.underlying37 rfl (by kernel_rfl)) rfl (.inr ⟨HF.out, rfl, B9⟩)
    replace hv := Lib.hid hv
    have HF : Hid (cr.may = true) := Lib.hid (by rw [HM.out, hk.out, hv.out]; rfl)
    rw [hk.out] at rk
    rw [hv.out] at rv
    clear HK HV
    replace rk : Hid (RdI (fun b => w.heap.size ≤ b ∧ b ≠ w.heap.size + 1) _ _ (keyS s l)) := rk
    replace rs : Hid (RdI (fun b => w.heap.size ≤ b ∧ b ≠ w.heap.size + 1) _ _ (li (sumsK ls))) := rs
    replace rv : Hid (RdI (fun b => w.heap.size ≤ b ∧ b ≠ w.heap.size + 1) _ _ (winS xw)) := rv
    go_upto_region 6 with fail
    go_cut [10] from 40 to 47 (fun s10 wx => CutC w x3 (w.heap.size + 2) 37 [at1 crL, li [at1 isL, keyS s l], li (sumsK ls)] s10 wx)
    case first =>
      have hxq := X.out.lt
      have hKS : Keeps (fun w' => (Box w' yk 37 #[.bool kl, .bool kh, .slice ka1 kn1 kc1, .slice ka2 kn2 kc2, .slice ka3 kn3 kc3] ∧ Box w' ys 37 #[.bool sl, .bool sh, .slice sa1 sn1 sc1, .slice sa2 sn2 sc2, .slice sa3 sn3 sc3]) ∧ (RdI (fun b => (w.heap.size ≤ b ∧ b ≠ w.heap.size + 1) ∧ b < x3.heap.size) w' ⟨kl, kh, ka1, kn1, kc1, ka2, kn2, kc2, ka3, kn3, kc3⟩ (keyS s l) ∧ RdI (fun b => (w.heap.size ≤ b ∧ b ≠ w.heap.size + 1) ∧ b < x3.heap.size) w' ⟨sl, sh, sa1, sn1, sc1, sa2, sn2, sc2, sa3, sn3, sc3⟩ (li (sumsK ls))) ∧ Box w' (w.heap.size + 1) 37 #[.bool false, .bool false, .slice none 0 0, .slice none 0 0, .slice none 0 0] ∧ Below x3.heap.size x3 w') := fun w1 w2 h b => ⟨⟨h.1.1.after b, h.1.2.after b⟩, ⟨h.2.1.1.after b, h.2.1.2.after b⟩, h.2.2.1.after b, h.2.2.2.trans (b.mono h.2.2.2.size)⟩
      refine wp_region_W (w := x3) [9] (fun w' => (Box w' yk 37 #[.bool kl, .bool kh, .slice ka1 kn1 kc1, .slice ka2 kn2 kc2, .slice ka3 kn3 kc3] ∧ Box w' ys 37 #[.bool sl, .bool sh, .slice sa1 sn1 sc1, .slice sa2 sn2 sc2, .slice sa3 sn3 sc3]) ∧ (RdI (fun b => (w.heap.size ≤ b ∧ b ≠ w.heap.size + 1) ∧ b < x3.heap.size) w' ⟨kl, kh, ka1, kn1, kc1, ka2, kn2, kc2, ka3, kn3, kc3⟩ (keyS s l) ∧ RdI (fun b => (w.heap.size ≤ b ∧ b ≠ w.heap.size + 1) ∧ b < x3.heap.size) w' ⟨sl, sh, sa1, sn1, sc1, sa2, sn2, sc2, sa3, sn3, sc3⟩ (li (sumsK ls))) ∧ Box w' (w.heap.size + 1) 37 #[.bool false, .bool false, .slice none 0 0, .slice none 0 0, .slice none 0 0] ∧ Below x3.heap.size x3 w') rfl (hKS _ _ ⟨⟨Yk.out, Ys.out⟩, ⟨rk.out.there, rs.out.there⟩, X.out, Below.refl _ _⟩ (Below.refl _ _).drew) ?_
      refine wpW_val 2 hKS rfl (by kernel_rfl) (by kernel_rfl) (by kernel_rfl) (by kernel_rfl) rfl (fun _ _ _ _ h => h) (.agg #[.bool kl, .bool kh, .slice ka1 kn1 kc1, .slice ka2 kn2 kc2, .slice ka3 kn3 kc3]) (fun w' h => run_load_box rfl h.1.1 (by rfl) Tryd.underlying37 rfl (by kernel_rfl)) ?_
      simp only [Act.put, List.setIfInBounds_toArray, List.set_cons_zero, List.set_cons_succ]
      refine wpW_val 5 hKS rfl (by kernel_rfl) (by kernel_rfl) (by kernel_rfl) (by kernel_rfl) rfl (fun _ _ _ _ h => h) (.agg #[.bool sl, .bool sh, .slice sa1 sn1 sc1, .slice sa2 sn2 sc2, .slice sa3 sn3 sc3]) (fun w' h => run_load_box rfl h.1.2 (by rfl) Tryd.underlying37 rfl (by kernel_rfl)) ?_
      simp only [Act.put, List.setIfInBounds_toArray, List.set_cons_zero, List.set_cons_succ]
      refine wpW_two 0 8 rfl rfl (by kernel_rfl) rfl rfl rfl rfl ?_ ?_
      · intro z11 b11 s11
        refine wp_callR 40 #[.string ⟨#[99, 114, 108]⟩] (by simp [go_sem]) _ (atomI_any (fun b => w.heap.size ≤ b ∧ b ≠ w.heap.size + 1) ⟨#[99, 114, 108]⟩ (by decide) z11 (fun b hb => by have := s11.2.2.1.lt; omega)) ?_
        rintro e w12 ⟨vA, rfl, rA, c12⟩
        refine ⟨_, rfl, hKS _ _ s11 c12, ?_⟩
        simp only [Act.put, List.setIfInBounds_toArray, List.set_cons_zero, List.set_cons_succ]
        refine wpW_two 1 8 rfl rfl (by kernel_rfl) rfl rfl rfl rfl ?_ ?_
        · intro z13 b13 s13
          replace rA := rA.after b13
          refine wp_callR 40 #[.string ⟨#[105, 115, 115, 117, 101, 114]⟩] (by simp [go_sem]) _ (atomI_any (fun b => w.heap.size ≤ b ∧ b ≠ w.heap.size + 1) ⟨#[105, 115, 115, 117, 101, 114]⟩ (by decide) z13 (fun b hb => by have := s13.2.2.1.lt; omega)) ?_
          rintro e w14 ⟨vB, rfl, rB, c14⟩
          replace rA := rA.after c14
          refine ⟨_, rfl, hKS _ _ s13 c14, ?_⟩
          simp only [Act.put, List.setIfInBounds_toArray, List.set_cons_zero, List.set_cons_succ]
          refine wpW_two 3 8 rfl rfl (by kernel_rfl) rfl rfl rfl rfl ?_ ?_
          · intro z15 b15 s15
            replace rA := rA.after b15
            replace rB := rB.after b15
            refine wp_of_run (.slice (some ⟨z15.heap.size, 0, none⟩) 2 2) (z15.alloc (.cells #[.bool vB.l, .bool vB.h, .slice vB.a1 vB.n1 vB.c1, .slice vB.a2 vB.n2 vB.c2, .slice vB.a3 vB.n3 vB.c3, .bool (⟨kl, kh, ka1, kn1, kc1, ka2, kn2, kc2, ka3, kn3, kc3⟩ : SV).l, .bool (⟨kl, kh, ka1, kn1, kc1, ka2, kn2, kc2, ka3, kn3, kc3⟩ : SV).h, .slice (⟨kl, kh, ka1, kn1, kc1, ka2, kn2, kc2, ka3, kn3, kc3⟩ : SV).a1 (⟨kl, kh, ka1, kn1, kc1, ka2, kn2, kc2, ka3, kn3, kc3⟩ : SV).n1 (⟨kl, kh, ka1, kn1, kc1, ka2, kn2, kc2, ka3, kn3, kc3⟩ : SV).c1, .slice (⟨kl, kh, ka1, kn1, kc1, ka2, kn2, kc2, ka3, kn3, kc3⟩ : SV).a2 (⟨kl, kh, ka1, kn1, kc1, ka2, kn2, kc2, ka3, kn3, kc3⟩ : SV).n2 (⟨kl, kh, ka1, kn1, kc1, ka2, kn2, kc2, ka3, kn3, kc3⟩ : SV).c2, .slice (⟨kl, kh, ka1, kn1, kc1, ka2, kn2, kc2, ka3, kn3, kc3⟩ : SV).a3 (⟨kl, kh, ka1, kn1, kc1, ka2, kn2, kc2, ka3, kn3, kc3⟩ : SV).n3 (⟨kl, kh, ka1, kn1, kc1, ka2, kn2, kc2, ka3, kn3, kc3⟩ : SV).c3] 37)) (by simp [go_sem, SV.val]) ?_
            have c16 : Below z15.heap.size z15 (z15.alloc (.cells #[.bool vB.l, .bool vB.h, .slice vB.a1 vB.n1 vB.c1, .slice vB.a2 vB.n2 vB.c2, .slice vB.a3 vB.n3 vB.c3, .bool (⟨kl, kh, ka1, kn1, kc1, ka2, kn2, kc2, ka3, kn3, kc3⟩ : SV).l, .bool (⟨kl, kh, ka1, kn1, kc1, ka2, kn2, kc2, ka3, kn3, kc3⟩ : SV).h, .slice (⟨kl, kh, ka1, kn1, kc1, ka2, kn2, kc2, ka3, kn3, kc3⟩ : SV).a1 (⟨kl, kh, ka1, kn1, kc1, ka2, kn2, kc2, ka3, kn3, kc3⟩ : SV).n1 (⟨kl, kh, ka1, kn1, kc1, ka2, kn2, kc2, ka3, kn3, kc3⟩ : SV).c1, .slice (⟨kl, kh, ka1, kn1, kc1, ka2, kn2, kc2, ka3, kn3, kc3⟩ : SV).a2 (⟨kl, kh, ka1, kn1, kc1, ka2, kn2, kc2, ka3, kn3, kc3⟩ : SV).n2 (⟨kl, kh, ka1, kn1, kc1, ka2, kn2, kc2, ka3, kn3, kc3⟩ : SV).c2, .slice (⟨kl, kh, ka1, kn1, kc1, ka2, kn2, kc2, ka3, kn3, kc3⟩ : SV).a3 (⟨kl, kh, ka1, kn1, kc1, ka2, kn2, kc2, ka3, kn3, kc3⟩ : SV).n3 (⟨kl, kh, ka1, kn1, kc1, ka2, kn2, kc2, ka3, kn3, kc3⟩ : SV).c3] 37)) := (Below.refl _ _).alloc (Nat.le_refl _) _
            have rW := row_two z15 vB (⟨kl, kh, ka1, kn1, kc1, ka2, kn2, kc2, ka3, kn3, kc3⟩ : SV) 37
            replace rA := rA.after c16
            replace rB := rB.after c16
            refine ⟨hKS _ _ s15 c16, ?_⟩
            simp only [Act.put, List.setIfInBounds_toArray, List.set_cons_zero, List.set_cons_succ]
            generalize (z15.alloc (.cells #[.bool vB.l, .bool vB.h, .slice vB.a1 vB.n1 vB.c1, .slice vB.a2 vB.n2 vB.c2, .slice vB.a3 vB.n3 vB.c3, .bool (⟨kl, kh, ka1, kn1, kc1, ka2, kn2, kc2, ka3, kn3, kc3⟩ : SV).l, .bool (⟨kl, kh, ka1, kn1, kc1, ka2, kn2, kc2, ka3, kn3, kc3⟩ : SV).h, .slice (⟨kl, kh, ka1, kn1, kc1, ka2, kn2, kc2, ka3, kn3, kc3⟩ : SV).a1 (⟨kl, kh, ka1, kn1, kc1, ka2, kn2, kc2, ka3, kn3, kc3⟩ : SV).n1 (⟨kl, kh, ka1, kn1, kc1, ka2, kn2, kc2, ka3, kn3, kc3⟩ : SV).c1, .slice (⟨kl, kh, ka1, kn1, kc1, ka2, kn2, kc2, ka3, kn3, kc3⟩ : SV).a2 (⟨kl, kh, ka1, kn1, kc1, ka2, kn2, kc2, ka3, kn3, kc3⟩ : SV).n2 (⟨kl, kh, ka1, kn1, kc1, ka2, kn2, kc2, ka3, kn3, kc3⟩ : SV).c2, .slice (⟨kl, kh, ka1, kn1, kc1, ka2, kn2, kc2, ka3, kn3, kc3⟩ : SV).a3 (⟨kl, kh, ka1, kn1, kc1, ka2, kn2, kc2, ka3, kn3, kc3⟩ : SV).n3 (⟨kl, kh, ka1, kn1, kc1, ka2, kn2, kc2, ka3, kn3, kc3⟩ : SV).c3] 37)) = y16 at *
            refine wpW_two 4 8 rfl rfl (by kernel_rfl) rfl rfl rfl rfl ?_ ?_
            · intro z17 b17 s17
              replace rA := rA.after b17
              replace rB := rB.after b17
              replace rW := rW.after b17
              refine wp_callR 39 #[.slice (some ⟨_, 0, none⟩) 2 2] (by simp [go_sem]) _ (listI_any (fun b => w.heap.size ≤ b ∧ b ≠ w.heap.size + 1) _ 2 2 _ [at1 isL, keyS s l] z17 rW (by omega) rfl (fun i hi => match i, hi with | 0, _ => rB | 1, _ => (s17.2.1.1.mono (ok' := (fun b => w.heap.size ≤ b ∧ b ≠ w.heap.size + 1)) (fun b hb => hb.1))) (fun b hb => by have := s17.2.2.1.lt; omega)) ?_
              rintro e w18 ⟨vM, rfl, rM, c18⟩
              clear rW
              replace rA := rA.after c18
              replace rB := rB.after c18
              refine ⟨_, rfl, hKS _ _ s17 c18, ?_⟩
              simp only [Act.put, List.setIfInBounds_toArray, List.set_cons_zero, List.set_cons_succ]
              refine wpW_two 6 8 rfl rfl (by kernel_rfl) rfl rfl rfl rfl ?_ ?_
              · intro z19 b19 s19
                replace rA := rA.after b19
                replace rB := rB.after b19
                replace rM := rM.after b19
                refine wp_of_run (.slice (some ⟨z19.heap.size, 0, none⟩) 3 3) (z19.alloc (.cells #[.bool vA.l, .bool vA.h, .slice vA.a1 vA.n1 vA.c1, .slice vA.a2 vA.n2 vA.c2, .slice vA.a3 vA.n3 vA.c3, .bool vM.l, .bool vM.h, .slice vM.a1 vM.n1 vM.c1, .slice vM.a2 vM.n2 vM.c2, .slice vM.a3 vM.n3 vM.c3, .bool (⟨sl, sh, sa1, sn1, sc1, sa2, sn2, sc2, sa3, sn3, sc3⟩ : SV).l, .bool (⟨sl, sh, sa1, sn1, sc1, sa2, sn2, sc2, sa3, sn3, sc3⟩ : SV).h, .slice (⟨sl, sh, sa1, sn1, sc1, sa2, sn2, sc2, sa3, sn3, sc3⟩ : SV).a1 (⟨sl, sh, sa1, sn1, sc1, sa2, sn2, sc2, sa3, sn3, sc3⟩ : SV).n1 (⟨sl, sh, sa1, sn1, sc1, sa2, sn2, sc2, sa3, sn3, sc3⟩ : SV).c1, .slice (⟨sl, sh, sa1, sn1, sc1, sa2, sn2, sc2, sa3, sn3, sc3⟩ : SV).a2 (⟨sl, sh, sa1, sn1, sc1, sa2, sn2, sc2, sa3, sn3, sc3⟩ : SV).n2 (⟨sl, sh, sa1, sn1, sc1, sa2, sn2, sc2, sa3, sn3, sc3⟩ : SV).c2, .slice (⟨sl, sh, sa1, sn1, sc1, sa2, sn2, sc2, sa3, sn3, sc3⟩ : SV).a3 (⟨sl, sh, sa1, sn1, sc1, sa2, sn2, sc2, sa3, sn3, sc3⟩ : SV).n3 (⟨sl, sh, sa1, sn1, sc1, sa2, sn2, sc2, sa3, sn3, sc3⟩ : SV).c3] 37)) (by simp [go_sem, SV.val]) ?_
                have c20 : Below z19.heap.size z19 (z19.alloc (.cells #[.bool vA.l, .bool vA.h, .slice vA.a1 vA.n1 vA.c1, .slice vA.a2 vA.n2 vA.c2, .slice vA.a3 vA.n3 vA.c3, .bool vM.l, .bool vM.h, .slice vM.a1 vM.n1 vM.c1, .slice vM.a2 vM.n2 vM.c2, .slice vM.a3 vM.n3 vM.c3, .bool (⟨sl, sh, sa1, sn1, sc1, sa2, sn2, sc2, sa3, sn3, sc3⟩ : SV).l, .bool (⟨sl, sh, sa1, sn1, sc1, sa2, sn2, sc2, sa3, sn3, sc3⟩ : SV).h, .slice (⟨sl, sh, sa1, sn1, sc1, sa2, sn2, sc2, sa3, sn3, sc3⟩ : SV).a1 (⟨sl, sh, sa1, sn1, sc1, sa2, sn2, sc2, sa3, sn3, sc3⟩ : SV).n1 (⟨sl, sh, sa1, sn1, sc1, sa2, sn2, sc2, sa3, sn3, sc3⟩ : SV).c1, .slice (⟨sl, sh, sa1, sn1, sc1, sa2, sn2, sc2, sa3, sn3, sc3⟩ : SV).a2 (⟨sl, sh, sa1, sn1, sc1, sa2, sn2, sc2, sa3, sn3, sc3⟩ : SV).n2 (⟨sl, sh, sa1, sn1, sc1, sa2, sn2, sc2, sa3, sn3, sc3⟩ : SV).c2, .slice (⟨sl, sh, sa1, sn1, sc1, sa2, sn2, sc2, sa3, sn3, sc3⟩ : SV).a3 (⟨sl, sh, sa1, sn1, sc1, sa2, sn2, sc2, sa3, sn3, sc3⟩ : SV).n3 (⟨sl, sh, sa1, sn1, sc1, sa2, sn2, sc2, sa3, sn3, sc3⟩ : SV).c3] 37)) := (Below.refl _ _).alloc (Nat.le_refl _) _
                have rW := row_three z19 vA vM (⟨sl, sh, sa1, sn1, sc1, sa2, sn2, sc2, sa3, sn3, sc3⟩ : SV) 37
                replace rA := rA.after c20
                replace rB := rB.after c20
                replace rM := rM.after c20
                refine ⟨hKS _ _ s19 c20, ?_⟩
                simp only [Act.put, List.setIfInBounds_toArray, List.set_cons_zero, List.set_cons_succ]
                generalize (z19.alloc (.cells #[.bool vA.l, .bool vA.h, .slice vA.a1 vA.n1 vA.c1, .slice vA.a2 vA.n2 vA.c2, .slice vA.a3 vA.n3 vA.c3, .bool vM.l, .bool vM.h, .slice vM.a1 vM.n1 vM.c1, .slice vM.a2 vM.n2 vM.c2, .slice vM.a3 vM.n3 vM.c3, .bool (⟨sl, sh, sa1, sn1, sc1, sa2, sn2, sc2, sa3, sn3, sc3⟩ : SV).l, .bool (⟨sl, sh, sa1, sn1, sc1, sa2, sn2, sc2, sa3, sn3, sc3⟩ : SV).h, .slice (⟨sl, sh, sa1, sn1, sc1, sa2, sn2, sc2, sa3, sn3, sc3⟩ : SV).a1 (⟨sl, sh, sa1, sn1, sc1, sa2, sn2, sc2, sa3, sn3, sc3⟩ : SV).n1 (⟨sl, sh, sa1, sn1, sc1, sa2, sn2, sc2, sa3, sn3, sc3⟩ : SV).c1, .slice (⟨sl, sh, sa1, sn1, sc1, sa2, sn2, sc2, sa3, sn3, sc3⟩ : SV).a2 (⟨sl, sh, sa1, sn1, sc1, sa2, sn2, sc2, sa3, sn3, sc3⟩ : SV).n2 (⟨sl, sh, sa1, sn1, sc1, sa2, sn2, sc2, sa3, sn3, sc3⟩ : SV).c2, .slice (⟨sl, sh, sa1, sn1, sc1, sa2, sn2, sc2, sa3, sn3, sc3⟩ : SV).a3 (⟨sl, sh, sa1, sn1, sc1, sa2, sn2, sc2, sa3, sn3, sc3⟩ : SV).n3 (⟨sl, sh, sa1, sn1, sc1, sa2, sn2, sc2, sa3, sn3, sc3⟩ : SV).c3] 37)) = y20 at *
                refine wpW_two 7 8 rfl rfl (by kernel_rfl) rfl rfl rfl rfl ?_ ?_
                · intro z21 b21 s21
                  replace rA := rA.after b21
                  replace rB := rB.after b21
                  replace rM := rM.after b21
                  replace rW := rW.after b21
                  have rA' := rA.there
                  have rM' := rM.there
                  have rS' : RdI (fun b => ((fun b => w.heap.size ≤ b ∧ b ≠ w.heap.size + 1) b) ∧ b < z21.heap.size) z21 (⟨sl, sh, sa1, sn1, sc1, sa2, sn2, sc2, sa3, sn3, sc3⟩ : SV) (li (sumsK ls)) := ((s21.2.1.2.mono (ok' := (fun b => w.heap.size ≤ b ∧ b ≠ w.heap.size + 1)) (fun b hb => hb.1))).there
                  have hzq := s21.2.2.2.size
                  have hzx := s21.2.2.1.lt
                  refine wp_callR 39 #[.slice (some ⟨_, 0, none⟩) 3 3] (by simp [go_sem]) _ (listO_any _ 3 3 _ z21 rW (by omega)) ?_
                  rintro e w22 ⟨la, lc, rfl, rO, c22⟩
                  clear rW rA rM
                  have hLL : ∀ b, (Value.slice la 3 lc).ownBlock = some b → z21.heap.size + 1 ≤ b := fun b hb => (rO.lt b hb).1
                  replace rO := rO.le (B' := w.heap.size + 2) (by omega)
                  have rA := (rA'.mono (ok' := okO (fun b => w.heap.size ≤ b ∧ b ≠ w.heap.size + 1) (.slice la 3 lc)) (fun b hb => ⟨hb.1, fun e => by have := hLL b e; have := hb.2; omega⟩)).after c22
                  have rM := (rM'.mono (ok' := okO (fun b => w.heap.size ≤ b ∧ b ≠ w.heap.size + 1) (.slice la 3 lc)) (fun b hb => ⟨hb.1, fun e => by have := hLL b e; have := hb.2; omega⟩)).after c22
                  have rS := (rS'.mono (ok' := okO (fun b => w.heap.size ≤ b ∧ b ≠ w.heap.size + 1) (.slice la 3 lc)) (fun b hb => ⟨hb.1, fun e => by have := hLL b e; have := hb.2; omega⟩)).after c22
                  clear rA' rM' rS'
                  have hLE : ∀ b, (Value.slice la 3 lc).ownBlock = some b → b < w22.heap.size ∧ x3.heap.size ≤ b := fun b hb => ⟨(rO.lt b hb).2, by have := hLL b hb; omega⟩
                  refine ⟨_, rfl, hKS _ _ s21 c22, ?_⟩
                  simp only [Act.put, List.setIfInBounds_toArray, List.set_cons_zero, List.set_cons_succ]
                  clear hzq hzx hLL
                  refine wpW_one 8 rfl (by kernel_rfl) rfl rfl ?_
                  intro z23 b23 s23
                  replace rA := rA.after b23
                  replace rM := rM.after b23
                  replace rS := rS.after b23
                  replace rO := rO.after b23
                  refine wp_alloc_new 37 rfl #[.bool false, .bool false, .slice none 0 0, .slice none 0 0, .slice none 0 0] (by intro w; simp [go_sem]) ?_
                  intro g10 w24 rG lg0 c24
                  have lg : x3.heap.size ≤ g10 := Nat.le_trans s23.2.2.2.size lg0
                  replace rA := ((rA.there).mono (ok' := okO (fun b => (w.heap.size ≤ b ∧ b ≠ w.heap.size + 1) ∧ b ≠ g10) (.slice la 3 lc)) (fun b hb => ⟨⟨hb.1.1, by have := hb.2; omega⟩, hb.1.2⟩)).after c24
                  replace rM := ((rM.there).mono (ok' := okO (fun b => (w.heap.size ≤ b ∧ b ≠ w.heap.size + 1) ∧ b ≠ g10) (.slice la 3 lc)) (fun b hb => ⟨⟨hb.1.1, by have := hb.2; omega⟩, hb.1.2⟩)).after c24
                  replace rS := ((rS.there).mono (ok' := okO (fun b => (w.heap.size ≤ b ∧ b ≠ w.heap.size + 1) ∧ b ≠ g10) (.slice la 3 lc)) (fun b hb => ⟨⟨hb.1.1, by have := hb.2; omega⟩, hb.1.2⟩)).after c24
                  replace rO := rO.after c24
                  have hLG : ∀ b, (Value.slice la 3 lc).ownBlock = some b → b ≠ g10 ∧ x3.heap.size ≤ b := fun b hb => ⟨by have := (hLE b hb).1; have := b23.size; omega, (hLE b hb).2⟩
                  refine ⟨hKS _ _ s23 c24, ?_⟩
                  simp only [Act.put, List.setIfInBounds_toArray, List.set_cons_zero, List.set_cons_succ]
                  clear lg0
                  refine wpW_write 9 rfl (by kernel_rfl) (by kernel_rfl) rfl ?_
                  intro z25 b25 s25
                  replace rA := rA.after b25
                  replace rM := rM.after b25
                  replace rS := rS.after b25
                  replace rO := rO.after b25
                  replace rG := rG.after b25
                  refine wp_store_box 37 _ _ rfl rG (by rfl) (by rfl) rfl (by kernel_rfl) (by simp [Value.oneCell']) (cells := #[.bool true, .bool false, .slice none 0 0, .slice none 0 0, .slice la 3 lc]) ?_
                  intro zx Xx stx
                  have Bx := stx.below x3.heap.size x3 lg s25.2.2.2
                  have rOx := rO.keep (w' := zx) (Nat.le_of_eq stx.size.symm) (fun b hb => stx.other b (hLG b hb).1)
                  have tA := rA.keep (w' := zx) (fun b hb => stx.other b hb.1.2)
                  have tM := rM.keep (w' := zx) (fun b hb => stx.other b hb.1.2)
                  have tS := rS.keep (w' := zx) (fun b hb => stx.other b hb.1.2)
                  simp only [Act.put, List.setIfInBounds_toArray, List.set_cons_zero, List.set_cons_succ]
                  refine wpU_done rfl (fun w9 b9 _ => ?_)
                  have D := Bx.trans (b9.mono Bx.size)
                  have CU : CutC w x3 (w.heap.size + 2) 37 [at1 crL, li [at1 isL, keyS s l], li (sumsK ls)] (.pointer (some ⟨g10, 0, none⟩)) w9 := ⟨g10, la, lc, threeK vA vM (⟨sl, sh, sa1, sn1, sc1, sa2, sn2, sc2, sa3, sn3, sc3⟩ : SV), rfl, lg, Xx.after b9, (rOx.after b9), hLG, (fun i hi => match i, hi with | 0, _ => tA.after b9 | 1, _ => tM.after b9 | 2, _ => tS.after b9), D⟩
                  clear D tS tM tA rOx Bx stx Xx b9 rA rM rS rO rG hLG s25 hKS
                  go_wp2_with fail
                  go_meet
                  exact CU
                · intro z21 b21 s21
                  replace rA := rA.after b21
                  replace rB := rB.after b21
                  replace rM := rM.after b21
                  replace rW := rW.after b21
                  refine wp_alloc_new 37 rfl #[.bool false, .bool false, .slice none 0 0, .slice none 0 0, .slice none 0 0] (by intro w; simp [go_sem]) ?_
                  intro g10 w26 rG lg0 c26
                  have lg : x3.heap.size ≤ g10 := Nat.le_trans s21.2.2.2.size lg0
                  replace rA := ((rA.there).mono (ok' := (fun b => (w.heap.size ≤ b ∧ b ≠ w.heap.size + 1) ∧ b ≠ g10)) (fun b hb => ⟨hb.1, by have := hb.2; omega⟩)).after c26
                  replace rB := ((rB.there).mono (ok' := (fun b => (w.heap.size ≤ b ∧ b ≠ w.heap.size + 1) ∧ b ≠ g10)) (fun b hb => ⟨hb.1, by have := hb.2; omega⟩)).after c26
                  replace rM := ((rM.there).mono (ok' := (fun b => (w.heap.size ≤ b ∧ b ≠ w.heap.size + 1) ∧ b ≠ g10)) (fun b hb => ⟨hb.1, by have := hb.2; omega⟩)).after c26
                  replace rW := rW.after c26
                  refine ⟨hKS _ _ s21 c26, ?_⟩
                  simp only [Act.put, List.setIfInBounds_toArray, List.set_cons_zero, List.set_cons_succ]
                  clear lg0
                  refine wpW_one 7 rfl (by kernel_rfl) rfl rfl ?_
                  intro z27 b27 s27
                  replace rA := rA.after b27
                  replace rB := rB.after b27
                  replace rM := rM.after b27
                  replace rW := rW.after b27
                  replace rG := rG.after b27
                  have rA' := rA.there
                  have rM' := rM.there
                  have rS' : RdI (fun b => ((fun b => (w.heap.size ≤ b ∧ b ≠ w.heap.size + 1) ∧ b ≠ g10) b) ∧ b < z27.heap.size) z27 (⟨sl, sh, sa1, sn1, sc1, sa2, sn2, sc2, sa3, sn3, sc3⟩ : SV) (li (sumsK ls)) := ((s27.2.1.2.mono (ok' := (fun b => (w.heap.size ≤ b ∧ b ≠ w.heap.size + 1) ∧ b ≠ g10)) (fun b hb => ⟨hb.1, by have := hb.2; omega⟩))).there
                  have hzq := s27.2.2.2.size
                  have hzx := s27.2.2.1.lt
                  refine wp_callR 39 #[.slice (some ⟨_, 0, none⟩) 3 3] (by simp [go_sem]) _ (listO_any _ 3 3 _ z27 rW (by omega)) ?_
                  rintro e w28 ⟨la, lc, rfl, rO, c28⟩
                  clear rW rA rM
                  have hLL : ∀ b, (Value.slice la 3 lc).ownBlock = some b → z27.heap.size + 1 ≤ b := fun b hb => (rO.lt b hb).1
                  replace rO := rO.le (B' := w.heap.size + 2) (by omega)
                  have rA := (rA'.mono (ok' := okO (fun b => (w.heap.size ≤ b ∧ b ≠ w.heap.size + 1) ∧ b ≠ g10) (.slice la 3 lc)) (fun b hb => ⟨hb.1, fun e => by have := hLL b e; have := hb.2; omega⟩)).after c28
                  have rM := (rM'.mono (ok' := okO (fun b => (w.heap.size ≤ b ∧ b ≠ w.heap.size + 1) ∧ b ≠ g10) (.slice la 3 lc)) (fun b hb => ⟨hb.1, fun e => by have := hLL b e; have := hb.2; omega⟩)).after c28
                  have rS := (rS'.mono (ok' := okO (fun b => (w.heap.size ≤ b ∧ b ≠ w.heap.size + 1) ∧ b ≠ g10) (.slice la 3 lc)) (fun b hb => ⟨hb.1, fun e => by have := hLL b e; have := hb.2; omega⟩)).after c28
                  clear rA' rM' rS'
                  have hgz := rG.lt
                  have hLG : ∀ b, (Value.slice la 3 lc).ownBlock = some b → b ≠ g10 ∧ x3.heap.size ≤ b := fun b hb => by have := hLL b hb; omega
                  replace rG := rG.after c28
                  refine ⟨_, rfl, hKS _ _ s27 c28, ?_⟩
                  simp only [Act.put, List.setIfInBounds_toArray, List.set_cons_zero, List.set_cons_succ]
                  clear hzq hzx hLL
                  refine wpW_write 9 rfl (by kernel_rfl) (by kernel_rfl) rfl ?_
                  intro z29 b29 s29
                  replace rG := rG.after b29
                  replace rA := rA.after b29
                  replace rM := rM.after b29
                  replace rS := rS.after b29
                  replace rO := rO.after b29
                  refine wp_store_box 37 _ _ rfl rG (by rfl) (by rfl) rfl (by kernel_rfl) (by simp [Value.oneCell']) (cells := #[.bool true, .bool false, .slice none 0 0, .slice none 0 0, .slice la 3 lc]) ?_
                  intro zx Xx stx
                  have Bx := stx.below x3.heap.size x3 lg s29.2.2.2
                  have rOx := rO.keep (w' := zx) (Nat.le_of_eq stx.size.symm) (fun b hb => stx.other b (hLG b hb).1)
                  have tA := rA.keep (w' := zx) (fun b hb => stx.other b hb.1.2)
                  have tM := rM.keep (w' := zx) (fun b hb => stx.other b hb.1.2)
                  have tS := rS.keep (w' := zx) (fun b hb => stx.other b hb.1.2)
                  simp only [Act.put, List.setIfInBounds_toArray, List.set_cons_zero, List.set_cons_succ]
                  refine wpU_done rfl (fun w9 b9 _ => ?_)
                  have D := Bx.trans (b9.mono Bx.size)
                  have CU : CutC w x3 (w.heap.size + 2) 37 [at1 crL, li [at1 isL, keyS s l], li (sumsK ls)] (.pointer (some ⟨g10, 0, none⟩)) w9 := ⟨g10, la, lc, threeK vA vM (⟨sl, sh, sa1, sn1, sc1, sa2, sn2, sc2, sa3, sn3, sc3⟩ : SV), rfl, lg, Xx.after b9, (rOx.after b9), hLG, (fun i hi => match i, hi with | 0, _ => tA.after b9 | 1, _ => tM.after b9 | 2, _ => tS.after b9), D⟩
                  clear D tS tM tA rOx Bx stx Xx b9 rA rM rS rO rG hLG s29 hKS
                  go_wp2_with fail
                  go_meet
                  exact CU
              · intro z19 b19 s19
                replace rA := rA.after b19
                replace rB := rB.after b19
                replace rM := rM.after b19
                refine wp_alloc_new 37 rfl #[.bool false, .bool false, .slice none 0 0, .slice none 0 0, .slice none 0 0] (by intro w; simp [go_sem]) ?_
                intro g10 w30 rG lg0 c30
                have lg : x3.heap.size ≤ g10 := Nat.le_trans s19.2.2.2.size lg0
                replace rA := ((rA.there).mono (ok' := (fun b => (w.heap.size ≤ b ∧ b ≠ w.heap.size + 1) ∧ b ≠ g10)) (fun b hb => ⟨hb.1, by have := hb.2; omega⟩)).after c30
                replace rB := ((rB.there).mono (ok' := (fun b => (w.heap.size ≤ b ∧ b ≠ w.heap.size + 1) ∧ b ≠ g10)) (fun b hb => ⟨hb.1, by have := hb.2; omega⟩)).after c30
                replace rM := ((rM.there).mono (ok' := (fun b => (w.heap.size ≤ b ∧ b ≠ w.heap.size + 1) ∧ b ≠ g10)) (fun b hb => ⟨hb.1, by have := hb.2; omega⟩)).after c30
                refine ⟨hKS _ _ s19 c30, ?_⟩
                simp only [Act.put, List.setIfInBounds_toArray, List.set_cons_zero, List.set_cons_succ]
                clear lg0
                refine wpW_one 6 rfl (by kernel_rfl) rfl rfl ?_
                intro z31 b31 s31
                replace rA := rA.after b31
                replace rB := rB.after b31
                replace rM := rM.after b31
                replace rG := rG.after b31
                refine wp_of_run (.slice (some ⟨z31.heap.size, 0, none⟩) 3 3) (z31.alloc (.cells #[.bool vA.l, .bool vA.h, .slice vA.a1 vA.n1 vA.c1, .slice vA.a2 vA.n2 vA.c2, .slice vA.a3 vA.n3 vA.c3, .bool vM.l, .bool vM.h, .slice vM.a1 vM.n1 vM.c1, .slice vM.a2 vM.n2 vM.c2, .slice vM.a3 vM.n3 vM.c3, .bool (⟨sl, sh, sa1, sn1, sc1, sa2, sn2, sc2, sa3, sn3, sc3⟩ : SV).l, .bool (⟨sl, sh, sa1, sn1, sc1, sa2, sn2, sc2, sa3, sn3, sc3⟩ : SV).h, .slice (⟨sl, sh, sa1, sn1, sc1, sa2, sn2, sc2, sa3, sn3, sc3⟩ : SV).a1 (⟨sl, sh, sa1, sn1, sc1, sa2, sn2, sc2, sa3, sn3, sc3⟩ : SV).n1 (⟨sl, sh, sa1, sn1, sc1, sa2, sn2, sc2, sa3, sn3, sc3⟩ : SV).c1, .slice (⟨sl, sh, sa1, sn1, sc1, sa2, sn2, sc2, sa3, sn3, sc3⟩ : SV).a2 (⟨sl, sh, sa1, sn1, sc1, sa2, sn2, sc2, sa3, sn3, sc3⟩ : SV).n2 (⟨sl, sh, sa1, sn1, sc1, sa2, sn2, sc2, sa3, sn3, sc3⟩ : SV).c2, .slice (⟨sl, sh, sa1, sn1, sc1, sa2, sn2, sc2, sa3, sn3, sc3⟩ : SV).a3 (⟨sl, sh, sa1, sn1, sc1, sa2, sn2, sc2, sa3, sn3, sc3⟩ : SV).n3 (⟨sl, sh, sa1, sn1, sc1, sa2, sn2, sc2, sa3, sn3, sc3⟩ : SV).c3] 37)) (by simp [go_sem, SV.val]) ?_
                have c32 : Below z31.heap.size z31 (z31.alloc (.cells #[.bool vA.l, .bool vA.h, .slice vA.a1 vA.n1 vA.c1, .slice vA.a2 vA.n2 vA.c2, .slice vA.a3 vA.n3 vA.c3, .bool vM.l, .bool vM.h, .slice vM.a1 vM.n1 vM.c1, .slice vM.a2 vM.n2 vM.c2, .slice vM.a3 vM.n3 vM.c3, .bool (⟨sl, sh, sa1, sn1, sc1, sa2, sn2, sc2, sa3, sn3, sc3⟩ : SV).l, .bool (⟨sl, sh, sa1, sn1, sc1, sa2, sn2, sc2, sa3, sn3, sc3⟩ : SV).h, .slice (⟨sl, sh, sa1, sn1, sc1, sa2, sn2, sc2, sa3, sn3, sc3⟩ : SV).a1 (⟨sl, sh, sa1, sn1, sc1, sa2, sn2, sc2, sa3, sn3, sc3⟩ : SV).n1 (⟨sl, sh, sa1, sn1, sc1, sa2, sn2, sc2, sa3, sn3, sc3⟩ : SV).c1, .slice (⟨sl, sh, sa1, sn1, sc1, sa2, sn2, sc2, sa3, sn3, sc3⟩ : SV).a2 (⟨sl, sh, sa1, sn1, sc1, sa2, sn2, sc2, sa3, sn3, sc3⟩ : SV).n2 (⟨sl, sh, sa1, sn1, sc1, sa2, sn2, sc2, sa3, sn3, sc3⟩ : SV).c2, .slice (⟨sl, sh, sa1, sn1, sc1, sa2, sn2, sc2, sa3, sn3, sc3⟩ : SV).a3 (⟨sl, sh, sa1, sn1, sc1, sa2, sn2, sc2, sa3, sn3, sc3⟩ : SV).n3 (⟨sl, sh, sa1, sn1, sc1, sa2, sn2, sc2, sa3, sn3, sc3⟩ : SV).c3] 37)) := (Below.refl _ _).alloc (Nat.le_refl _) _
                have rW := row_three z31 vA vM (⟨sl, sh, sa1, sn1, sc1, sa2, sn2, sc2, sa3, sn3, sc3⟩ : SV) 37
                replace rA := rA.after c32
                replace rB := rB.after c32
                replace rM := rM.after c32
                replace rG := rG.after c32
                refine ⟨hKS _ _ s31 c32, ?_⟩
                simp only [Act.put, List.setIfInBounds_toArray, List.set_cons_zero, List.set_cons_succ]
                generalize (z31.alloc (.cells #[.bool vA.l, .bool vA.h, .slice vA.a1 vA.n1 vA.c1, .slice vA.a2 vA.n2 vA.c2, .slice vA.a3 vA.n3 vA.c3, .bool vM.l, .bool vM.h, .slice vM.a1 vM.n1 vM.c1, .slice vM.a2 vM.n2 vM.c2, .slice vM.a3 vM.n3 vM.c3, .bool (⟨sl, sh, sa1, sn1, sc1, sa2, sn2, sc2, sa3, sn3, sc3⟩ : SV).l, .bool (⟨sl, sh, sa1, sn1, sc1, sa2, sn2, sc2, sa3, sn3, sc3⟩ : SV).h, .slice (⟨sl, sh, sa1, sn1, sc1, sa2, sn2, sc2, sa3, sn3, sc3⟩ : SV).a1 (⟨sl, sh, sa1, sn1, sc1, sa2, sn2, sc2, sa3, sn3, sc3⟩ : SV).n1 (⟨sl, sh, sa1, sn1, sc1, sa2, sn2, sc2, sa3, sn3, sc3⟩ : SV).c1, .slice (⟨sl, sh, sa1, sn1, sc1, sa2, sn2, sc2, sa3, sn3, sc3⟩ : SV).a2 (⟨sl, sh, sa1, sn1, sc1, sa2, sn2, sc2, sa3, sn3, sc3⟩ : SV).n2 (⟨sl, sh, sa1, sn1, sc1, sa2, sn2, sc2, sa3, sn3, sc3⟩ : SV).c2, .slice (⟨sl, sh, sa1, sn1, sc1, sa2, sn2, sc2, sa3, sn3, sc3⟩ : SV).a3 (⟨sl, sh, sa1, sn1, sc1, sa2, sn2, sc2, sa3, sn3, sc3⟩ : SV).n3 (⟨sl, sh, sa1, sn1, sc1, sa2, sn2, sc2, sa3, sn3, sc3⟩ : SV).c3] 37)) = y32 at *
                refine wpW_one 7 rfl (by kernel_rfl) rfl rfl ?_
                intro z33 b33 s33
                replace rA := rA.after b33
                replace rB := rB.after b33
                replace rM := rM.after b33
                replace rG := rG.after b33
                replace rW := rW.after b33
                have rA' := rA.there
                have rM' := rM.there
                have rS' : RdI (fun b => ((fun b => (w.heap.size ≤ b ∧ b ≠ w.heap.size + 1) ∧ b ≠ g10) b) ∧ b < z33.heap.size) z33 (⟨sl, sh, sa1, sn1, sc1, sa2, sn2, sc2, sa3, sn3, sc3⟩ : SV) (li (sumsK ls)) := ((s33.2.1.2.mono (ok' := (fun b => (w.heap.size ≤ b ∧ b ≠ w.heap.size + 1) ∧ b ≠ g10)) (fun b hb => ⟨hb.1, by have := hb.2; omega⟩))).there
                have hzq := s33.2.2.2.size
                have hzx := s33.2.2.1.lt
                refine wp_callR 39 #[.slice (some ⟨_, 0, none⟩) 3 3] (by simp [go_sem]) _ (listO_any _ 3 3 _ z33 rW (by omega)) ?_
                rintro e w34 ⟨la, lc, rfl, rO, c34⟩
                clear rW rA rM
                have hLL : ∀ b, (Value.slice la 3 lc).ownBlock = some b → z33.heap.size + 1 ≤ b := fun b hb => (rO.lt b hb).1
                replace rO := rO.le (B' := w.heap.size + 2) (by omega)
                have rA := (rA'.mono (ok' := okO (fun b => (w.heap.size ≤ b ∧ b ≠ w.heap.size + 1) ∧ b ≠ g10) (.slice la 3 lc)) (fun b hb => ⟨hb.1, fun e => by have := hLL b e; have := hb.2; omega⟩)).after c34
                have rM := (rM'.mono (ok' := okO (fun b => (w.heap.size ≤ b ∧ b ≠ w.heap.size + 1) ∧ b ≠ g10) (.slice la 3 lc)) (fun b hb => ⟨hb.1, fun e => by have := hLL b e; have := hb.2; omega⟩)).after c34
                have rS := (rS'.mono (ok' := okO (fun b => (w.heap.size ≤ b ∧ b ≠ w.heap.size + 1) ∧ b ≠ g10) (.slice la 3 lc)) (fun b hb => ⟨hb.1, fun e => by have := hLL b e; have := hb.2; omega⟩)).after c34
                clear rA' rM' rS'
                have hgz := rG.lt
                have hLG : ∀ b, (Value.slice la 3 lc).ownBlock = some b → b ≠ g10 ∧ x3.heap.size ≤ b := fun b hb => by have := hLL b hb; omega
                replace rG := rG.after c34
                refine ⟨_, rfl, hKS _ _ s33 c34, ?_⟩
                simp only [Act.put, List.setIfInBounds_toArray, List.set_cons_zero, List.set_cons_succ]
                clear hzq hzx hLL
                refine wpW_write 9 rfl (by kernel_rfl) (by kernel_rfl) rfl ?_
                intro z35 b35 s35
                replace rG := rG.after b35
                replace rA := rA.after b35
                replace rM := rM.after b35
                replace rS := rS.after b35
                replace rO := rO.after b35
                refine wp_store_box 37 _ _ rfl rG (by rfl) (by rfl) rfl (by kernel_rfl) (by simp [Value.oneCell']) (cells := #[.bool true, .bool false, .slice none 0 0, .slice none 0 0, .slice la 3 lc]) ?_
                intro zx Xx stx
                have Bx := stx.below x3.heap.size x3 lg s35.2.2.2
                have rOx := rO.keep (w' := zx) (Nat.le_of_eq stx.size.symm) (fun b hb => stx.other b (hLG b hb).1)
                have tA := rA.keep (w' := zx) (fun b hb => stx.other b hb.1.2)
                have tM := rM.keep (w' := zx) (fun b hb => stx.other b hb.1.2)
                have tS := rS.keep (w' := zx) (fun b hb => stx.other b hb.1.2)
                simp only [Act.put, List.setIfInBounds_toArray, List.set_cons_zero, List.set_cons_succ]
                refine wpU_done rfl (fun w9 b9 _ => ?_)
                have D := Bx.trans (b9.mono Bx.size)
                have CU : CutC w x3 (w.heap.size + 2) 37 [at1 crL, li [at1 isL, keyS s l], li (sumsK ls)] (.pointer (some ⟨g10, 0, none⟩)) w9 := ⟨g10, la, lc, threeK vA vM (⟨sl, sh, sa1, sn1, sc1, sa2, sn2, sc2, sa3, sn3, sc3⟩ : SV), rfl, lg, Xx.after b9, (rOx.after b9), hLG, (fun i hi => match i, hi with | 0, _ => tA.after b9 | 1, _ => tM.after b9 | 2, _ => tS.after b9), D⟩
                clear D tS tM tA rOx Bx stx Xx b9 rA rM rS rO rG hLG s35 hKS
                go_wp2_with fail
                go_meet
                exact CU
            · intro z17 b17 s17
              replace rA := rA.after b17
              replace rB := rB.after b17
              replace rW := rW.after b17
              refine wp_alloc_new 37 rfl #[.bool false, .bool false, .slice none 0 0, .slice none 0 0, .slice none 0 0] (by intro w; simp [go_sem]) ?_
              intro g10 w36 rG lg0 c36
              have lg : x3.heap.size ≤ g10 := Nat.le_trans s17.2.2.2.size lg0
              replace rA := ((rA.there).mono (ok' := (fun b => (w.heap.size ≤ b ∧ b ≠ w.heap.size + 1) ∧ b ≠ g10)) (fun b hb => ⟨hb.1, by have := hb.2; omega⟩)).after c36
              replace rB := ((rB.there).mono (ok' := (fun b => (w.heap.size ≤ b ∧ b ≠ w.heap.size + 1) ∧ b ≠ g10)) (fun b hb => ⟨hb.1, by have := hb.2; omega⟩)).after c36
              replace rW := rW.after c36
              refine ⟨hKS _ _ s17 c36, ?_⟩
              simp only [Act.put, List.setIfInBounds_toArray, List.set_cons_zero, List.set_cons_succ]
              clear lg0
              refine wpW_one 4 rfl (by kernel_rfl) rfl rfl ?_
              intro z37 b37 s37
              replace rA := rA.after b37
              replace rB := rB.after b37
              replace rW := rW.after b37
              replace rG := rG.after b37
              refine wp_callR 39 #[.slice (some ⟨_, 0, none⟩) 2 2] (by simp [go_sem]) _ (listI_any (fun b => (w.heap.size ≤ b ∧ b ≠ w.heap.size + 1) ∧ b ≠ g10) _ 2 2 _ [at1 isL, keyS s l] z37 rW (by omega) rfl (fun i hi => match i, hi with | 0, _ => rB | 1, _ => (s37.2.1.1.mono (ok' := (fun b => (w.heap.size ≤ b ∧ b ≠ w.heap.size + 1) ∧ b ≠ g10)) (fun b hb => ⟨hb.1, by have := hb.2; omega⟩))) (fun b hb => by have := s37.2.2.1.lt; have := rG.lt; omega)) ?_
              rintro e w38 ⟨vM, rfl, rM, c38⟩
              clear rW
              replace rA := rA.after c38
              replace rB := rB.after c38
              replace rG := rG.after c38
              refine ⟨_, rfl, hKS _ _ s37 c38, ?_⟩
              simp only [Act.put, List.setIfInBounds_toArray, List.set_cons_zero, List.set_cons_succ]
              refine wpW_one 6 rfl (by kernel_rfl) rfl rfl ?_
              intro z39 b39 s39
              replace rA := rA.after b39
              replace rB := rB.after b39
              replace rG := rG.after b39
              replace rM := rM.after b39
              refine wp_of_run (.slice (some ⟨z39.heap.size, 0, none⟩) 3 3) (z39.alloc (.cells #[.bool vA.l, .bool vA.h, .slice vA.a1 vA.n1 vA.c1, .slice vA.a2 vA.n2 vA.c2, .slice vA.a3 vA.n3 vA.c3, .bool vM.l, .bool vM.h, .slice vM.a1 vM.n1 vM.c1, .slice vM.a2 vM.n2 vM.c2, .slice vM.a3 vM.n3 vM.c3, .bool (⟨sl, sh, sa1, sn1, sc1, sa2, sn2, sc2, sa3, sn3, sc3⟩ : SV).l, .bool (⟨sl, sh, sa1, sn1, sc1, sa2, sn2, sc2, sa3, sn3, sc3⟩ : SV).h, .slice (⟨sl, sh, sa1, sn1, sc1, sa2, sn2, sc2, sa3, sn3, sc3⟩ : SV).a1 (⟨sl, sh, sa1, sn1, sc1, sa2, sn2, sc2, sa3, sn3, sc3⟩ : SV).n1 (⟨sl, sh, sa1, sn1, sc1, sa2, sn2, sc2, sa3, sn3, sc3⟩ : SV).c1, .slice (⟨sl, sh, sa1, sn1, sc1, sa2, sn2, sc2, sa3, sn3, sc3⟩ : SV).a2 (⟨sl, sh, sa1, sn1, sc1, sa2, sn2, sc2, sa3, sn3, sc3⟩ : SV).n2 (⟨sl, sh, sa1, sn1, sc1, sa2, sn2, sc2, sa3, sn3, sc3⟩ : SV).c2, .slice (⟨sl, sh, sa1, sn1, sc1, sa2, sn2, sc2, sa3, sn3, sc3⟩ : SV).a3 (⟨sl, sh, sa1, sn1, sc1, sa2, sn2, sc2, sa3, sn3, sc3⟩ : SV).n3 (⟨sl, sh, sa1, sn1, sc1, sa2, sn2, sc2, sa3, sn3, sc3⟩ : SV).c3] 37)) (by simp [go_sem, SV.val]) ?_
              have c40 : Below z39.heap.size z39 (z39.alloc (.cells #[.bool vA.l, .bool vA.h, .slice vA.a1 vA.n1 vA.c1, .slice vA.a2 vA.n2 vA.c2, .slice vA.a3 vA.n3 vA.c3, .bool vM.l, .bool vM.h, .slice vM.a1 vM.n1 vM.c1, .slice vM.a2 vM.n2 vM.c2, .slice vM.a3 vM.n3 vM.c3, .bool (⟨sl, sh, sa1, sn1, sc1, sa2, sn2, sc2, sa3, sn3, sc3⟩ : SV).l, .bool (⟨sl, sh, sa1, sn1, sc1, sa2, sn2, sc2, sa3, sn3, sc3⟩ : SV).h, .slice (⟨sl, sh, sa1, sn1, sc1, sa2, sn2, sc2, sa3, sn3, sc3⟩ : SV).a1 (⟨sl, sh, sa1, sn1, sc1, sa2, sn2, sc2, sa3, sn3, sc3⟩ : SV).n1 (⟨sl, sh, sa1, sn1, sc1, sa2, sn2, sc2, sa3, sn3, sc3⟩ : SV).c1, .slice (⟨sl, sh, sa1, sn1, sc1, sa2, sn2, sc2, sa3, sn3, sc3⟩ : SV).a2 (⟨sl, sh, sa1, sn1, sc1, sa2, sn2, sc2, sa3, sn3, sc3⟩ : SV).n2 (⟨sl, sh, sa1, sn1, sc1, sa2, sn2, sc2, sa3, sn3, sc3⟩ : SV).c2, .slice (⟨sl, sh, sa1, sn1, sc1, sa2, sn2, sc2, sa3, sn3, sc3⟩ : SV).a3 (⟨sl, sh, sa1, sn1, sc1, sa2, sn2, sc2, sa3, sn3, sc3⟩ : SV).n3 (⟨sl, sh, sa1, sn1, sc1, sa2, sn2, sc2, sa3, sn3, sc3⟩ : SV).c3] 37)) := (Below.refl _ _).alloc (Nat.le_refl _) _
              have rW := row_three z39 vA vM (⟨sl, sh, sa1, sn1, sc1, sa2, sn2, sc2, sa3, sn3, sc3⟩ : SV) 37
              replace rA := rA.after c40
              replace rB := rB.after c40
              replace rG := rG.after c40
              replace rM := rM.after c40
              refine ⟨hKS _ _ s39 c40, ?_⟩
              simp only [Act.put, List.setIfInBounds_toArray, List.set_cons_zero, List.set_cons_succ]
              generalize (z39.alloc (.cells #[.bool vA.l, .bool vA.h, .slice vA.a1 vA.n1 vA.c1, .slice vA.a2 vA.n2 vA.c2, .slice vA.a3 vA.n3 vA.c3, .bool vM.l, .bool vM.h, .slice vM.a1 vM.n1 vM.c1, .slice vM.a2 vM.n2 vM.c2, .slice vM.a3 vM.n3 vM.c3, .bool (⟨sl, sh, sa1, sn1, sc1, sa2, sn2, sc2, sa3, sn3, sc3⟩ : SV).l, .bool (⟨sl, sh, sa1, sn1, sc1, sa2, sn2, sc2, sa3, sn3, sc3⟩ : SV).h, .slice (⟨sl, sh, sa1, sn1, sc1, sa2, sn2, sc2, sa3, sn3, sc3⟩ : SV).a1 (⟨sl, sh, sa1, sn1, sc1, sa2, sn2, sc2, sa3, sn3, sc3⟩ : SV).n1 (⟨sl, sh, sa1, sn1, sc1, sa2, sn2, sc2, sa3, sn3, sc3⟩ : SV).c1, .slice (⟨sl, sh, sa1, sn1, sc1, sa2, sn2, sc2, sa3, sn3, sc3⟩ : SV).a2 (⟨sl, sh, sa1, sn1, sc1, sa2, sn2, sc2, sa3, sn3, sc3⟩ : SV).n2 (⟨sl, sh, sa1, sn1, sc1, sa2, sn2, sc2, sa3, sn3, sc3⟩ : SV).c2, .slice (⟨sl, sh, sa1, sn1, sc1, sa2, sn2, sc2, sa3, sn3, sc3⟩ : SV).a3 (⟨sl, sh, sa1, sn1, sc1, sa2, sn2, sc2, sa3, sn3, sc3⟩ : SV).n3 (⟨sl, sh, sa1, sn1, sc1, sa2, sn2, sc2, sa3, sn3, sc3⟩ : SV).c3] 37)) = y40 at *
              refine wpW_one 7 rfl (by kernel_rfl) rfl rfl ?_
              intro z41 b41 s41
              replace rA := rA.after b41
              replace rB := rB.after b41
              replace rG := rG.after b41
              replace rM := rM.after b41
              replace rW := rW.after b41
              have rA' := rA.there
              have rM' := rM.there
              have rS' : RdI (fun b => ((fun b => (w.heap.size ≤ b ∧ b ≠ w.heap.size + 1) ∧ b ≠ g10) b) ∧ b < z41.heap.size) z41 (⟨sl, sh, sa1, sn1, sc1, sa2, sn2, sc2, sa3, sn3, sc3⟩ : SV) (li (sumsK ls)) := ((s41.2.1.2.mono (ok' := (fun b => (w.heap.size ≤ b ∧ b ≠ w.heap.size + 1) ∧ b ≠ g10)) (fun b hb => ⟨hb.1, by have := hb.2; omega⟩))).there
              have hzq := s41.2.2.2.size
              have hzx := s41.2.2.1.lt
              refine wp_callR 39 #[.slice (some ⟨_, 0, none⟩) 3 3] (by simp [go_sem]) _ (listO_any _ 3 3 _ z41 rW (by omega)) ?_
              rintro e w42 ⟨la, lc, rfl, rO, c42⟩
              clear rW rA rM
              have hLL : ∀ b, (Value.slice la 3 lc).ownBlock = some b → z41.heap.size + 1 ≤ b := fun b hb => (rO.lt b hb).1
              replace rO := rO.le (B' := w.heap.size + 2) (by omega)
              have rA := (rA'.mono (ok' := okO (fun b => (w.heap.size ≤ b ∧ b ≠ w.heap.size + 1) ∧ b ≠ g10) (.slice la 3 lc)) (fun b hb => ⟨hb.1, fun e => by have := hLL b e; have := hb.2; omega⟩)).after c42
              have rM := (rM'.mono (ok' := okO (fun b => (w.heap.size ≤ b ∧ b ≠ w.heap.size + 1) ∧ b ≠ g10) (.slice la 3 lc)) (fun b hb => ⟨hb.1, fun e => by have := hLL b e; have := hb.2; omega⟩)).after c42
              have rS := (rS'.mono (ok' := okO (fun b => (w.heap.size ≤ b ∧ b ≠ w.heap.size + 1) ∧ b ≠ g10) (.slice la 3 lc)) (fun b hb => ⟨hb.1, fun e => by have := hLL b e; have := hb.2; omega⟩)).after c42
              clear rA' rM' rS'
              have hgz := rG.lt
              have hLG : ∀ b, (Value.slice la 3 lc).ownBlock = some b → b ≠ g10 ∧ x3.heap.size ≤ b := fun b hb => by have := hLL b hb; omega
              replace rG := rG.after c42
              refine ⟨_, rfl, hKS _ _ s41 c42, ?_⟩
              simp only [Act.put, List.setIfInBounds_toArray, List.set_cons_zero, List.set_cons_succ]
              clear hzq hzx hLL
              refine wpW_write 9 rfl (by kernel_rfl) (by kernel_rfl) rfl ?_
              intro z43 b43 s43
              replace rG := rG.after b43
              replace rA := rA.after b43
              replace rM := rM.after b43
              replace rS := rS.after b43
              replace rO := rO.after b43
              refine wp_store_box 37 _ _ rfl rG (by rfl) (by rfl) rfl (by kernel_rfl) (by simp [Value.oneCell']) (cells := #[.bool true, .bool false, .slice none 0 0, .slice none 0 0, .slice la 3 lc]) ?_
              intro zx Xx stx
              have Bx := stx.below x3.heap.size x3 lg s43.2.2.2
              have rOx := rO.keep (w' := zx) (Nat.le_of_eq stx.size.symm) (fun b hb => stx.other b (hLG b hb).1)
              have tA := rA.keep (w' := zx) (fun b hb => stx.other b hb.1.2)
              have tM := rM.keep (w' := zx) (fun b hb => stx.other b hb.1.2)
              have tS := rS.keep (w' := zx) (fun b hb => stx.other b hb.1.2)
              simp only [Act.put, List.setIfInBounds_toArray, List.set_cons_zero, List.set_cons_succ]
              refine wpU_done rfl (fun w9 b9 _ => ?_)
              have D := Bx.trans (b9.mono Bx.size)
              have CU : CutC w x3 (w.heap.size + 2) 37 [at1 crL, li [at1 isL, keyS s l], li (sumsK ls)] (.pointer (some ⟨g10, 0, none⟩)) w9 := ⟨g10, la, lc, threeK vA vM (⟨sl, sh, sa1, sn1, sc1, sa2, sn2, sc2, sa3, sn3, sc3⟩ : SV), rfl, lg, Xx.after b9, (rOx.after b9), hLG, (fun i hi => match i, hi with | 0, _ => tA.after b9 | 1, _ => tM.after b9 | 2, _ => tS.after b9), D⟩
              clear D tS tM tA rOx Bx stx Xx b9 rA rM rS rO rG hLG s43 hKS
              go_wp2_with fail
              go_meet
              exact CU
          · intro z15 b15 s15
            replace rA := rA.after b15
            replace rB := rB.after b15
            refine wp_alloc_new 37 rfl #[.bool false, .bool false, .slice none 0 0, .slice none 0 0, .slice none 0 0] (by intro w; simp [go_sem]) ?_
            intro g10 w44 rG lg0 c44
            have lg : x3.heap.size ≤ g10 := Nat.le_trans s15.2.2.2.size lg0
            replace rA := ((rA.there).mono (ok' := (fun b => (w.heap.size ≤ b ∧ b ≠ w.heap.size + 1) ∧ b ≠ g10)) (fun b hb => ⟨hb.1, by have := hb.2; omega⟩)).after c44
            replace rB := ((rB.there).mono (ok' := (fun b => (w.heap.size ≤ b ∧ b ≠ w.heap.size + 1) ∧ b ≠ g10)) (fun b hb => ⟨hb.1, by have := hb.2; omega⟩)).after c44
            refine ⟨hKS _ _ s15 c44, ?_⟩
            simp only [Act.put, List.setIfInBounds_toArray, List.set_cons_zero, List.set_cons_succ]
            clear lg0
            refine wpW_one 3 rfl (by kernel_rfl) rfl rfl ?_
            intro z45 b45 s45
            replace rA := rA.after b45
            replace rB := rB.after b45
            replace rG := rG.after b45
            refine wp_of_run (.slice (some ⟨z45.heap.size, 0, none⟩) 2 2) (z45.alloc (.cells #[.bool vB.l, .bool vB.h, .slice vB.a1 vB.n1 vB.c1, .slice vB.a2 vB.n2 vB.c2, .slice vB.a3 vB.n3 vB.c3, .bool (⟨kl, kh, ka1, kn1, kc1, ka2, kn2, kc2, ka3, kn3, kc3⟩ : SV).l, .bool (⟨kl, kh, ka1, kn1, kc1, ka2, kn2, kc2, ka3, kn3, kc3⟩ : SV).h, .slice (⟨kl, kh, ka1, kn1, kc1, ka2, kn2, kc2, ka3, kn3, kc3⟩ : SV).a1 (⟨kl, kh, ka1, kn1, kc1, ka2, kn2, kc2, ka3, kn3, kc3⟩ : SV).n1 (⟨kl, kh, ka1, kn1, kc1, ka2, kn2, kc2, ka3, kn3, kc3⟩ : SV).c1, .slice (⟨kl, kh, ka1, kn1, kc1, ka2, kn2, kc2, ka3, kn3, kc3⟩ : SV).a2 (⟨kl, kh, ka1, kn1, kc1, ka2, kn2, kc2, ka3, kn3, kc3⟩ : SV).n2 (⟨kl, kh, ka1, kn1, kc1, ka2, kn2, kc2, ka3, kn3, kc3⟩ : SV).c2, .slice (⟨kl, kh, ka1, kn1, kc1, ka2, kn2, kc2, ka3, kn3, kc3⟩ : SV).a3 (⟨kl, kh, ka1, kn1, kc1, ka2, kn2, kc2, ka3, kn3, kc3⟩ : SV).n3 (⟨kl, kh, ka1, kn1, kc1, ka2, kn2, kc2, ka3, kn3, kc3⟩ : SV).c3] 37)) (by simp [go_sem, SV.val]) ?_
            have c46 : Below z45.heap.size z45 (z45.alloc (.cells #[.bool vB.l, .bool vB.h, .slice vB.a1 vB.n1 vB.c1, .slice vB.a2 vB.n2 vB.c2, .slice vB.a3 vB.n3 vB.c3, .bool (⟨kl, kh, ka1, kn1, kc1, ka2, kn2, kc2, ka3, kn3, kc3⟩ : SV).l, .bool (⟨kl, kh, ka1, kn1, kc1, ka2, kn2, kc2, ka3, kn3, kc3⟩ : SV).h, .slice (⟨kl, kh, ka1, kn1, kc1, ka2, kn2, kc2, ka3, kn3, kc3⟩ : SV).a1 (⟨kl, kh, ka1, kn1, kc1, ka2, kn2, kc2, ka3, kn3, kc3⟩ : SV).n1 (⟨kl, kh, ka1, kn1, kc1, ka2, kn2, kc2, ka3, kn3, kc3⟩ : SV).c1, .slice (⟨kl, kh, ka1, kn1, kc1, ka2, kn2, kc2, ka3, kn3, kc3⟩ : SV).a2 (⟨kl, kh, ka1, kn1, kc1, ka2, kn2, kc2, ka3, kn3, kc3⟩ : SV).n2 (⟨kl, kh, ka1, kn1, kc1, ka2, kn2, kc2, ka3, kn3, kc3⟩ : SV).c2, .slice (⟨kl, kh, ka1, kn1, kc1, ka2, kn2, kc2, ka3, kn3, kc3⟩ : SV).a3 (⟨kl, kh, ka1, kn1, kc1, ka2, kn2, kc2, ka3, kn3, kc3⟩ : SV).n3 (⟨kl, kh, ka1, kn1, kc1, ka2, kn2, kc2, ka3, kn3, kc3⟩ : SV).c3] 37)) := (Below.refl _ _).alloc (Nat.le_refl _) _
            have rW := row_two z45 vB (⟨kl, kh, ka1, kn1, kc1, ka2, kn2, kc2, ka3, kn3, kc3⟩ : SV) 37
            replace rA := rA.after c46
            replace rB := rB.after c46
            replace rG := rG.after c46
            refine ⟨hKS _ _ s45 c46, ?_⟩
            simp only [Act.put, List.setIfInBounds_toArray, List.set_cons_zero, List.set_cons_succ]
            generalize (z45.alloc (.cells #[.bool vB.l, .bool vB.h, .slice vB.a1 vB.n1 vB.c1, .slice vB.a2 vB.n2 vB.c2, .slice vB.a3 vB.n3 vB.c3, .bool (⟨kl, kh, ka1, kn1, kc1, ka2, kn2, kc2, ka3, kn3, kc3⟩ : SV).l, .bool (⟨kl, kh, ka1, kn1, kc1, ka2, kn2, kc2, ka3, kn3, kc3⟩ : SV).h, .slice (⟨kl, kh, ka1, kn1, kc1, ka2, kn2, kc2, ka3, kn3, kc3⟩ : SV).a1 (⟨kl, kh, ka1, kn1, kc1, ka2, kn2, kc2, ka3, kn3, kc3⟩ : SV).n1 (⟨kl, kh, ka1, kn1, kc1, ka2, kn2, kc2, ka3, kn3, kc3⟩ : SV).c1, .slice (⟨kl, kh, ka1, kn1, kc1, ka2, kn2, kc2, ka3, kn3, kc3⟩ : SV).a2 (⟨kl, kh, ka1, kn1, kc1, ka2, kn2, kc2, ka3, kn3, kc3⟩ : SV).n2 (⟨kl, kh, ka1, kn1, kc1, ka2, kn2, kc2, ka3, kn3, kc3⟩ : SV).c2, .slice (⟨kl, kh, ka1, kn1, kc1, ka2, kn2, kc2, ka3, kn3, kc3⟩ : SV).a3 (⟨kl, kh, ka1, kn1, kc1, ka2, kn2, kc2, ka3, kn3, kc3⟩ : SV).n3 (⟨kl, kh, ka1, kn1, kc1, ka2, kn2, kc2, ka3, kn3, kc3⟩ : SV).c3] 37)) = y46 at *
            refine wpW_one 4 rfl (by kernel_rfl) rfl rfl ?_
            intro z47 b47 s47
            replace rA := rA.after b47
            replace rB := rB.after b47
            replace rG := rG.after b47
            replace rW := rW.after b47
            refine wp_callR 39 #[.slice (some ⟨_, 0, none⟩) 2 2] (by simp [go_sem]) _ (listI_any (fun b => (w.heap.size ≤ b ∧ b ≠ w.heap.size + 1) ∧ b ≠ g10) _ 2 2 _ [at1 isL, keyS s l] z47 rW (by omega) rfl (fun i hi => match i, hi with | 0, _ => rB | 1, _ => (s47.2.1.1.mono (ok' := (fun b => (w.heap.size ≤ b ∧ b ≠ w.heap.size + 1) ∧ b ≠ g10)) (fun b hb => ⟨hb.1, by have := hb.2; omega⟩))) (fun b hb => by have := s47.2.2.1.lt; have := rG.lt; omega)) ?_
            rintro e w48 ⟨vM, rfl, rM, c48⟩
            clear rW
            replace rA := rA.after c48
            replace rB := rB.after c48
            replace rG := rG.after c48
            refine ⟨_, rfl, hKS _ _ s47 c48, ?_⟩
            simp only [Act.put, List.setIfInBounds_toArray, List.set_cons_zero, List.set_cons_succ]
            refine wpW_one 6 rfl (by kernel_rfl) rfl rfl ?_
            intro z49 b49 s49
            replace rA := rA.after b49
            replace rB := rB.after b49
            replace rG := rG.after b49
            replace rM := rM.after b49
            refine wp_of_run (.slice (some ⟨z49.heap.size, 0, none⟩) 3 3) (z49.alloc (.cells #[.bool vA.l, .bool vA.h, .slice vA.a1 vA.n1 vA.c1, .slice vA.a2 vA.n2 vA.c2, .slice vA.a3 vA.n3 vA.c3, .bool vM.l, .bool vM.h, .slice vM.a1 vM.n1 vM.c1, .slice vM.a2 vM.n2 vM.c2, .slice vM.a3 vM.n3 vM.c3, .bool (⟨sl, sh, sa1, sn1, sc1, sa2, sn2, sc2, sa3, sn3, sc3⟩ : SV).l, .bool (⟨sl, sh, sa1, sn1, sc1, sa2, sn2, sc2, sa3, sn3, sc3⟩ : SV).h, .slice (⟨sl, sh, sa1, sn1, sc1, sa2, sn2, sc2, sa3, sn3, sc3⟩ : SV).a1 (⟨sl, sh, sa1, sn1, sc1, sa2, sn2, sc2, sa3, sn3, sc3⟩ : SV).n1 (⟨sl, sh, sa1, sn1, sc1, sa2, sn2, sc2, sa3, sn3, sc3⟩ : SV).c1, .slice (⟨sl, sh, sa1, sn1, sc1, sa2, sn2, sc2, sa3, sn3, sc3⟩ : SV).a2 (⟨sl, sh, sa1, sn1, sc1, sa2, sn2, sc2, sa3, sn3, sc3⟩ : SV).n2 (⟨sl, sh, sa1, sn1, sc1, sa2, sn2, sc2, sa3, sn3, sc3⟩ : SV).c2, .slice (⟨sl, sh, sa1, sn1, sc1, sa2, sn2, sc2, sa3, sn3, sc3⟩ : SV).a3 (⟨sl, sh, sa1, sn1, sc1, sa2, sn2, sc2, sa3, sn3, sc3⟩ : SV).n3 (⟨sl, sh, sa1, sn1, sc1, sa2, sn2, sc2, sa3, sn3, sc3⟩ : SV).c3] 37)) (by simp [go_sem, SV.val]) ?_
            have c50 : Below z49.heap.size z49 (z49.alloc (.cells #[.bool vA.l, .bool vA.h, .slice vA.a1 vA.n1 vA.c1, .slice vA.a2 vA.n2 vA.c2, .slice vA.a3 vA.n3 vA.c3, .bool vM.l, .bool vM.h, .slice vM.a1 vM.n1 vM.c1, .slice vM.a2 vM.n2 vM.c2, .slice vM.a3 vM.n3 vM.c3, .bool (⟨sl, sh, sa1, sn1, sc1, sa2, sn2, sc2, sa3, sn3, sc3⟩ : SV).l, .bool (⟨sl, sh, sa1, sn1, sc1, sa2, sn2, sc2, sa3, sn3, sc3⟩ : SV).h, .slice (⟨sl, sh, sa1, sn1, sc1, sa2, sn2, sc2, sa3, sn3, sc3⟩ : SV).a1 (⟨sl, sh, sa1, sn1, sc1, sa2, sn2, sc2, sa3, sn3, sc3⟩ : SV).n1 (⟨sl, sh, sa1, sn1, sc1, sa2, sn2, sc2, sa3, sn3, sc3⟩ : SV).c1, .slice (⟨sl, sh, sa1, sn1, sc1, sa2, sn2, sc2, sa3, sn3, sc3⟩ : SV).a2 (⟨sl, sh, sa1, sn1, sc1, sa2, sn2, sc2, sa3, sn3, sc3⟩ : SV).n2 (⟨sl, sh, sa1, sn1, sc1, sa2, sn2, sc2, sa3, sn3, sc3⟩ : SV).c2, .slice (⟨sl, sh, sa1, sn1, sc1, sa2, sn2, sc2, sa3, sn3, sc3⟩ : SV).a3 (⟨sl, sh, sa1, sn1, sc1, sa2, sn2, sc2, sa3, sn3, sc3⟩ : SV).n3 (⟨sl, sh, sa1, sn1, sc1, sa2, sn2, sc2, sa3, sn3, sc3⟩ : SV).c3] 37)) := (Below.refl _ _).alloc (Nat.le_refl _) _
            have rW := row_three z49 vA vM (⟨sl, sh, sa1, sn1, sc1, sa2, sn2, sc2, sa3, sn3, sc3⟩ : SV) 37
            replace rA := rA.after c50
            replace rB := rB.after c50
            replace rG := rG.after c50
            replace rM := rM.after c50
            refine ⟨hKS _ _ s49 c50, ?_⟩
            simp only [Act.put, List.setIfInBounds_toArray, List.set_cons_zero, List.set_cons_succ]
            generalize (z49.alloc (.cells #[.bool vA.l, .bool vA.h, .slice vA.a1 vA.n1 vA.c1, .slice vA.a2 vA.n2 vA.c2, .slice vA.a3 vA.n3 vA.c3, .bool vM.l, .bool vM.h, .slice vM.a1 vM.n1 vM.c1, .slice vM.a2 vM.n2 vM.c2, .slice vM.a3 vM.n3 vM.c3, .bool (⟨sl, sh, sa1, sn1, sc1, sa2, sn2, sc2, sa3, sn3, sc3⟩ : SV).l, .bool (⟨sl, sh, sa1, sn1, sc1, sa2, sn2, sc2, sa3, sn3, sc3⟩ : SV).h, .slice (⟨sl, sh, sa1, sn1, sc1, sa2, sn2, sc2, sa3, sn3, sc3⟩ : SV).a1 (⟨sl, sh, sa1, sn1, sc1, sa2, sn2, sc2, sa3, sn3, sc3⟩ : SV).n1 (⟨sl, sh, sa1, sn1, sc1, sa2, sn2, sc2, sa3, sn3, sc3⟩ : SV).c1, .slice (⟨sl, sh, sa1, sn1, sc1, sa2, sn2, sc2, sa3, sn3, sc3⟩ : SV).a2 (⟨sl, sh, sa1, sn1, sc1, sa2, sn2, sc2, sa3, sn3, sc3⟩ : SV).n2 (⟨sl, sh, sa1, sn1, sc1, sa2, sn2, sc2, sa3, sn3, sc3⟩ : SV).c2, .slice (⟨sl, sh, sa1, sn1, sc1, sa2, sn2, sc2, sa3, sn3, sc3⟩ : SV).a3 (⟨sl, sh, sa1, sn1, sc1, sa2, sn2, sc2, sa3, sn3, sc3⟩ : SV).n3 (⟨sl, sh, sa1, sn1, sc1, sa2, sn2, sc2, sa3, sn3, sc3⟩ : SV).c3] 37)) = y50 at *
            refine wpW_one 7 rfl (by kernel_rfl) rfl rfl ?_
            intro z51 b51 s51
            replace rA := rA.after b51
            replace rB := rB.after b51
            replace rG := rG.after b51
            replace rM := rM.after b51
            replace rW := rW.after b51
            have rA' := rA.there
            have rM' := rM.there
            have rS' : RdI (fun b => ((fun b => (w.heap.size ≤ b ∧ b ≠ w.heap.size + 1) ∧ b ≠ g10) b) ∧ b < z51.heap.size) z51 (⟨sl, sh, sa1, sn1, sc1, sa2, sn2, sc2, sa3, sn3, sc3⟩ : SV) (li (sumsK ls)) := ((s51.2.1.2.mono (ok' := (fun b => (w.heap.size ≤ b ∧ b ≠ w.heap.size + 1) ∧ b ≠ g10)) (fun b hb => ⟨hb.1, by have := hb.2; omega⟩))).there
            have hzq := s51.2.2.2.size
            have hzx := s51.2.2.1.lt
            refine wp_callR 39 #[.slice (some ⟨_, 0, none⟩) 3 3] (by simp [go_sem]) _ (listO_any _ 3 3 _ z51 rW (by omega)) ?_
            rintro e w52 ⟨la, lc, rfl, rO, c52⟩
            clear rW rA rM
            have hLL : ∀ b, (Value.slice la 3 lc).ownBlock = some b → z51.heap.size + 1 ≤ b := fun b hb => (rO.lt b hb).1
            replace rO := rO.le (B' := w.heap.size + 2) (by omega)
            have rA := (rA'.mono (ok' := okO (fun b => (w.heap.size ≤ b ∧ b ≠ w.heap.size + 1) ∧ b ≠ g10) (.slice la 3 lc)) (fun b hb => ⟨hb.1, fun e => by have := hLL b e; have := hb.2; omega⟩)).after c52
            have rM := (rM'.mono (ok' := okO (fun b => (w.heap.size ≤ b ∧ b ≠ w.heap.size + 1) ∧ b ≠ g10) (.slice la 3 lc)) (fun b hb => ⟨hb.1, fun e => by have := hLL b e; have := hb.2; omega⟩)).after c52
            have rS := (rS'.mono (ok' := okO (fun b => (w.heap.size ≤ b ∧ b ≠ w.heap.size + 1) ∧ b ≠ g10) (.slice la 3 lc)) (fun b hb => ⟨hb.1, fun e => by have := hLL b e; have := hb.2; omega⟩)).after c52
            clear rA' rM' rS'
            have hgz := rG.lt
            have hLG : ∀ b, (Value.slice la 3 lc).ownBlock = some b → b ≠ g10 ∧ x3.heap.size ≤ b := fun b hb => by have := hLL b hb; omega
            replace rG := rG.after c52
            refine ⟨_, rfl, hKS _ _ s51 c52, ?_⟩
            simp only [Act.put, List.setIfInBounds_toArray, List.set_cons_zero, List.set_cons_succ]
            clear hzq hzx hLL
            refine wpW_write 9 rfl (by kernel_rfl) (by kernel_rfl) rfl ?_
            intro z53 b53 s53
            replace rG := rG.after b53
            replace rA := rA.after b53
            replace rM := rM.after b53
            replace rS := rS.after b53
            replace rO := rO.after b53
            refine wp_store_box 37 _ _ rfl rG (by rfl) (by rfl) rfl (by kernel_rfl) (by simp [Value.oneCell']) (cells := #[.bool true, .bool false, .slice none 0 0, .slice none 0 0, .slice la 3 lc]) ?_
            intro zx Xx stx
            have Bx := stx.below x3.heap.size x3 lg s53.2.2.2
            have rOx := rO.keep (w' := zx) (Nat.le_of_eq stx.size.symm) (fun b hb => stx.other b (hLG b hb).1)
            have tA := rA.keep (w' := zx) (fun b hb => stx.other b hb.1.2)
            have tM := rM.keep (w' := zx) (fun b hb => stx.other b hb.1.2)
            have tS := rS.keep (w' := zx) (fun b hb => stx.other b hb.1.2)
            simp only [Act.put, List.setIfInBounds_toArray, List.set_cons_zero, List.set_cons_succ]
            refine wpU_done rfl (fun w9 b9 _ => ?_)
            have D := Bx.trans (b9.mono Bx.size)
            have CU : CutC w x3 (w.heap.size + 2) 37 [at1 crL, li [at1 isL, keyS s l], li (sumsK ls)] (.pointer (some ⟨g10, 0, none⟩)) w9 := ⟨g10, la, lc, threeK vA vM (⟨sl, sh, sa1, sn1, sc1, sa2, sn2, sc2, sa3, sn3, sc3⟩ : SV), rfl, lg, Xx.after b9, (rOx.after b9), hLG, (fun i hi => match i, hi with | 0, _ => tA.after b9 | 1, _ => tM.after b9 | 2, _ => tS.after b9), D⟩
            clear D tS tM tA rOx Bx stx Xx b9 rA rM rS rO rG hLG s53 hKS
            go_wp2_with fail
            go_meet
            exact CU
        · intro z13 b13 s13
          replace rA := rA.after b13
          refine wp_alloc_new 37 rfl #[.bool false, .bool false, .slice none 0 0, .slice none 0 0, .slice none 0 0] (by intro w; simp [go_sem]) ?_
          intro g10 w54 rG lg0 c54
          have lg : x3.heap.size ≤ g10 := Nat.le_trans s13.2.2.2.size lg0
          replace rA := ((rA.there).mono (ok' := (fun b => (w.heap.size ≤ b ∧ b ≠ w.heap.size + 1) ∧ b ≠ g10)) (fun b hb => ⟨hb.1, by have := hb.2; omega⟩)).after c54
          refine ⟨hKS _ _ s13 c54, ?_⟩
          simp only [Act.put, List.setIfInBounds_toArray, List.set_cons_zero, List.set_cons_succ]
          clear lg0
          refine wpW_one 1 rfl (by kernel_rfl) rfl rfl ?_
          intro z55 b55 s55
          replace rA := rA.after b55
          replace rG := rG.after b55
          refine wp_callR 40 #[.string ⟨#[105, 115, 115, 117, 101, 114]⟩] (by simp [go_sem]) _ (atomI_any (fun b => (w.heap.size ≤ b ∧ b ≠ w.heap.size + 1) ∧ b ≠ g10) ⟨#[105, 115, 115, 117, 101, 114]⟩ (by decide) z55 (fun b hb => by have := s55.2.2.1.lt; have := rG.lt; omega)) ?_
          rintro e w56 ⟨vB, rfl, rB, c56⟩
          replace rA := rA.after c56
          replace rG := rG.after c56
          refine ⟨_, rfl, hKS _ _ s55 c56, ?_⟩
          simp only [Act.put, List.setIfInBounds_toArray, List.set_cons_zero, List.set_cons_succ]
          refine wpW_one 3 rfl (by kernel_rfl) rfl rfl ?_
          intro z57 b57 s57
          replace rA := rA.after b57
          replace rG := rG.after b57
          replace rB := rB.after b57
          refine wp_of_run (.slice (some ⟨z57.heap.size, 0, none⟩) 2 2) (z57.alloc (.cells #[.bool vB.l, .bool vB.h, .slice vB.a1 vB.n1 vB.c1, .slice vB.a2 vB.n2 vB.c2, .slice vB.a3 vB.n3 vB.c3, .bool (⟨kl, kh, ka1, kn1, kc1, ka2, kn2, kc2, ka3, kn3, kc3⟩ : SV).l, .bool (⟨kl, kh, ka1, kn1, kc1, ka2, kn2, kc2, ka3, kn3, kc3⟩ : SV).h, .slice (⟨kl, kh, ka1, kn1, kc1, ka2, kn2, kc2, ka3, kn3, kc3⟩ : SV).a1 (⟨kl, kh, ka1, kn1, kc1, ka2, kn2, kc2, ka3, kn3, kc3⟩ : SV).n1 (⟨kl, kh, ka1, kn1, kc1, ka2, kn2, kc2, ka3, kn3, kc3⟩ : SV).c1, .slice (⟨kl, kh, ka1, kn1, kc1, ka2, kn2, kc2, ka3, kn3, kc3⟩ : SV).a2 (⟨kl, kh, ka1, kn1, kc1, ka2, kn2, kc2, ka3, kn3, kc3⟩ : SV).n2 (⟨kl, kh, ka1, kn1, kc1, ka2, kn2, kc2, ka3, kn3, kc3⟩ : SV).c2, .slice (⟨kl, kh, ka1, kn1, kc1, ka2, kn2, kc2, ka3, kn3, kc3⟩ : SV).a3 (⟨kl, kh, ka1, kn1, kc1, ka2, kn2, kc2, ka3, kn3, kc3⟩ : SV).n3 (⟨kl, kh, ka1, kn1, kc1, ka2, kn2, kc2, ka3, kn3, kc3⟩ : SV).c3] 37)) (by simp [go_sem, SV.val]) ?_
          have c58 : Below z57.heap.size z57 (z57.alloc (.cells #[.bool vB.l, .bool vB.h, .slice vB.a1 vB.n1 vB.c1, .slice vB.a2 vB.n2 vB.c2, .slice vB.a3 vB.n3 vB.c3, .bool (⟨kl, kh, ka1, kn1, kc1, ka2, kn2, kc2, ka3, kn3, kc3⟩ : SV).l, .bool (⟨kl, kh, ka1, kn1, kc1, ka2, kn2, kc2, ka3, kn3, kc3⟩ : SV).h, .slice (⟨kl, kh, ka1, kn1, kc1, ka2, kn2, kc2, ka3, kn3, kc3⟩ : SV).a1 (⟨kl, kh, ka1, kn1, kc1, ka2, kn2, kc2, ka3, kn3, kc3⟩ : SV).n1 (⟨kl, kh, ka1, kn1, kc1, ka2, kn2, kc2, ka3, kn3, kc3⟩ : SV).c1, .slice (⟨kl, kh, ka1, kn1, kc1, ka2, kn2, kc2, ka3, kn3, kc3⟩ : SV).a2 (⟨kl, kh, ka1, kn1, kc1, ka2, kn2, kc2, ka3, kn3, kc3⟩ : SV).n2 (⟨kl, kh, ka1, kn1, kc1, ka2, kn2, kc2, ka3, kn3, kc3⟩ : SV).c2, .slice (⟨kl, kh, ka1, kn1, kc1, ka2, kn2, kc2, ka3, kn3, kc3⟩ : SV).a3 (⟨kl, kh, ka1, kn1, kc1, ka2, kn2, kc2, ka3, kn3, kc3⟩ : SV).n3 (⟨kl, kh, ka1, kn1, kc1, ka2, kn2, kc2, ka3, kn3, kc3⟩ : SV).c3] 37)) := (Below.refl _ _).alloc (Nat.le_refl _) _
          have rW := row_two z57 vB (⟨kl, kh, ka1, kn1, kc1, ka2, kn2, kc2, ka3, kn3, kc3⟩ : SV) 37
          replace rA := rA.after c58
          replace rG := rG.after c58
          replace rB := rB.after c58
          refine ⟨hKS _ _ s57 c58, ?_⟩
          simp only [Act.put, List.setIfInBounds_toArray, List.set_cons_zero, List.set_cons_succ]
          generalize (z57.alloc (.cells #[.bool vB.l, .bool vB.h, .slice vB.a1 vB.n1 vB.c1, .slice vB.a2 vB.n2 vB.c2, .slice vB.a3 vB.n3 vB.c3, .bool (⟨kl, kh, ka1, kn1, kc1, ka2, kn2, kc2, ka3, kn3, kc3⟩ : SV).l, .bool (⟨kl, kh, ka1, kn1, kc1, ka2, kn2, kc2, ka3, kn3, kc3⟩ : SV).h, .slice (⟨kl, kh, ka1, kn1, kc1, ka2, kn2, kc2, ka3, kn3, kc3⟩ : SV).a1 (⟨kl, kh, ka1, kn1, kc1, ka2, kn2, kc2, ka3, kn3, kc3⟩ : SV).n1 (⟨kl, kh, ka1, kn1, kc1, ka2, kn2, kc2, ka3, kn3, kc3⟩ : SV).c1, .slice (⟨kl, kh, ka1, kn1, kc1, ka2, kn2, kc2, ka3, kn3, kc3⟩ : SV).a2 (⟨kl, kh, ka1, kn1, kc1, ka2, kn2, kc2, ka3, kn3, kc3⟩ : SV).n2 (⟨kl, kh, ka1, kn1, kc1, ka2, kn2, kc2, ka3, kn3, kc3⟩ : SV).c2, .slice (⟨kl, kh, ka1, kn1, kc1, ka2, kn2, kc2, ka3, kn3, kc3⟩ : SV).a3 (⟨kl, kh, ka1, kn1, kc1, ka2, kn2, kc2, ka3, kn3, kc3⟩ : SV).n3 (⟨kl, kh, ka1, kn1, kc1, ka2, kn2, kc2, ka3, kn3, kc3⟩ : SV).c3] 37)) = y58 at *
          refine wpW_one 4 rfl (by kernel_rfl) rfl rfl ?_
          intro z59 b59 s59
          replace rA := rA.after b59
          replace rG := rG.after b59
          replace rB := rB.after b59
          replace rW := rW.after b59
          refine wp_callR 39 #[.slice (some ⟨_, 0, none⟩) 2 2] (by simp [go_sem]) _ (listI_any (fun b => (w.heap.size ≤ b ∧ b ≠ w.heap.size + 1) ∧ b ≠ g10) _ 2 2 _ [at1 isL, keyS s l] z59 rW (by omega) rfl (fun i hi => match i, hi with | 0, _ => rB | 1, _ => (s59.2.1.1.mono (ok' := (fun b => (w.heap.size ≤ b ∧ b ≠ w.heap.size + 1) ∧ b ≠ g10)) (fun b hb => ⟨hb.1, by have := hb.2; omega⟩))) (fun b hb => by have := s59.2.2.1.lt; have := rG.lt; omega)) ?_
          rintro e w60 ⟨vM, rfl, rM, c60⟩
          clear rW
          replace rA := rA.after c60
          replace rG := rG.after c60
          replace rB := rB.after c60
          refine ⟨_, rfl, hKS _ _ s59 c60, ?_⟩
          simp only [Act.put, List.setIfInBounds_toArray, List.set_cons_zero, List.set_cons_succ]
          refine wpW_one 6 rfl (by kernel_rfl) rfl rfl ?_
          intro z61 b61 s61
          replace rA := rA.after b61
          replace rG := rG.after b61
          replace rB := rB.after b61
          replace rM := rM.after b61
          refine wp_of_run (.slice (some ⟨z61.heap.size, 0, none⟩) 3 3) (z61.alloc (.cells #[.bool vA.l, .bool vA.h, .slice vA.a1 vA.n1 vA.c1, .slice vA.a2 vA.n2 vA.c2, .slice vA.a3 vA.n3 vA.c3, .bool vM.l, .bool vM.h, .slice vM.a1 vM.n1 vM.c1, .slice vM.a2 vM.n2 vM.c2, .slice vM.a3 vM.n3 vM.c3, .bool (⟨sl, sh, sa1, sn1, sc1, sa2, sn2, sc2, sa3, sn3, sc3⟩ : SV).l, .bool (⟨sl, sh, sa1, sn1, sc1, sa2, sn2, sc2, sa3, sn3, sc3⟩ : SV).h, .slice (⟨sl, sh, sa1, sn1, sc1, sa2, sn2, sc2, sa3, sn3, sc3⟩ : SV).a1 (⟨sl, sh, sa1, sn1, sc1, sa2, sn2, sc2, sa3, sn3, sc3⟩ : SV).n1 (⟨sl, sh, sa1, sn1, sc1, sa2, sn2, sc2, sa3, sn3, sc3⟩ : SV).c1, .slice (⟨sl, sh, sa1, sn1, sc1, sa2, sn2, sc2, sa3, sn3, sc3⟩ : SV).a2 (⟨sl, sh, sa1, sn1, sc1, sa2, sn2, sc2, sa3, sn3, sc3⟩ : SV).n2 (⟨sl, sh, sa1, sn1, sc1, sa2, sn2, sc2, sa3, sn3, sc3⟩ : SV).c2, .slice (⟨sl, sh, sa1, sn1, sc1, sa2, sn2, sc2, sa3, sn3, sc3⟩ : SV).a3 (⟨sl, sh, sa1, sn1, sc1, sa2, sn2, sc2, sa3, sn3, sc3⟩ : SV).n3 (⟨sl, sh, sa1, sn1, sc1, sa2, sn2, sc2, sa3, sn3, sc3⟩ : SV).c3] 37)) (by simp [go_sem, SV.val]) ?_
          have c62 : Below z61.heap.size z61 (z61.alloc (.cells #[.bool vA.l, .bool vA.h, .slice vA.a1 vA.n1 vA.c1, .slice vA.a2 vA.n2 vA.c2, .slice vA.a3 vA.n3 vA.c3, .bool vM.l, .bool vM.h, .slice vM.a1 vM.n1 vM.c1, .slice vM.a2 vM.n2 vM.c2, .slice vM.a3 vM.n3 vM.c3, .bool (⟨sl, sh, sa1, sn1, sc1, sa2, sn2, sc2, sa3, sn3, sc3⟩ : SV).l, .bool (⟨sl, sh, sa1, sn1, sc1, sa2, sn2, sc2, sa3, sn3, sc3⟩ : SV).h, .slice (⟨sl, sh, sa1, sn1, sc1, sa2, sn2, sc2, sa3, sn3, sc3⟩ : SV).a1 (⟨sl, sh, sa1, sn1, sc1, sa2, sn2, sc2, sa3, sn3, sc3⟩ : SV).n1 (⟨sl, sh, sa1, sn1, sc1, sa2, sn2, sc2, sa3, sn3, sc3⟩ : SV).c1, .slice (⟨sl, sh, sa1, sn1, sc1, sa2, sn2, sc2, sa3, sn3, sc3⟩ : SV).a2 (⟨sl, sh, sa1, sn1, sc1, sa2, sn2, sc2, sa3, sn3, sc3⟩ : SV).n2 (⟨sl, sh, sa1, sn1, sc1, sa2, sn2, sc2, sa3, sn3, sc3⟩ : SV).c2, .slice (⟨sl, sh, sa1, sn1, sc1, sa2, sn2, sc2, sa3, sn3, sc3⟩ : SV).a3 (⟨sl, sh, sa1, sn1, sc1, sa2, sn2, sc2, sa3, sn3, sc3⟩ : SV).n3 (⟨sl, sh, sa1, sn1, sc1, sa2, sn2, sc2, sa3, sn3, sc3⟩ : SV).c3] 37)) := (Below.refl _ _).alloc (Nat.le_refl _) _
          have rW := row_three z61 vA vM (⟨sl, sh, sa1, sn1, sc1, sa2, sn2, sc2, sa3, sn3, sc3⟩ : SV) 37
          replace rA := rA.after c62
          replace rG := rG.after c62
          replace rB := rB.after c62
          replace rM := rM.after c62
          refine ⟨hKS _ _ s61 c62, ?_⟩
          simp only [Act.put, List.setIfInBounds_toArray, List.set_cons_zero, List.set_cons_succ]
          generalize (z61.alloc (.cells #[.bool vA.l, .bool vA.h, .slice vA.a1 vA.n1 vA.c1, .slice vA.a2 vA.n2 vA.c2, .slice vA.a3 vA.n3 vA.c3, .bool vM.l, .bool vM.h, .slice vM.a1 vM.n1 vM.c1, .slice vM.a2 vM.n2 vM.c2, .slice vM.a3 vM.n3 vM.c3, .bool (⟨sl, sh, sa1, sn1, sc1, sa2, sn2, sc2, sa3, sn3, sc3⟩ : SV).l, .bool (⟨sl, sh, sa1, sn1, sc1, sa2, sn2, sc2, sa3, sn3, sc3⟩ : SV).h, .slice (⟨sl, sh, sa1, sn1, sc1, sa2, sn2, sc2, sa3, sn3, sc3⟩ : SV).a1 (⟨sl, sh, sa1, sn1, sc1, sa2, sn2, sc2, sa3, sn3, sc3⟩ : SV).n1 (⟨sl, sh, sa1, sn1, sc1, sa2, sn2, sc2, sa3, sn3, sc3⟩ : SV).c1, .slice (⟨sl, sh, sa1, sn1, sc1, sa2, sn2, sc2, sa3, sn3, sc3⟩ : SV).a2 (⟨sl, sh, sa1, sn1, sc1, sa2, sn2, sc2, sa3, sn3, sc3⟩ : SV).n2 (⟨sl, sh, sa1, sn1, sc1, sa2, sn2, sc2, sa3, sn3, sc3⟩ : SV).c2, .slice (⟨sl, sh, sa1, sn1, sc1, sa2, sn2, sc2, sa3, sn3, sc3⟩ : SV).a3 (⟨sl, sh, sa1, sn1, sc1, sa2, sn2, sc2, sa3, sn3, sc3⟩ : SV).n3 (⟨sl, sh, sa1, sn1, sc1, sa2, sn2, sc2, sa3, sn3, sc3⟩ : SV).c3] 37)) = y62 at *
          refine wpW_one 7 rfl (by kernel_rfl) rfl rfl ?_
          intro z63 b63 s63
          replace rA := rA.after b63
          replace rG := rG.after b63
          replace rB := rB.after b63
          replace rM := rM.after b63
          replace rW := rW.after b63
          have rA' := rA.there
          have rM' := rM.there
          have rS' : RdI (fun b => ((fun b => (w.heap.size ≤ b ∧ b ≠ w.heap.size + 1) ∧ b ≠ g10) b) ∧ b < z63.heap.size) z63 (⟨sl, sh, sa1, sn1, sc1, sa2, sn2, sc2, sa3, sn3, sc3⟩ : SV) (li (sumsK ls)) := ((s63.2.1.2.mono (ok' := (fun b => (w.heap.size ≤ b ∧ b ≠ w.heap.size + 1) ∧ b ≠ g10)) (fun b hb => ⟨hb.1, by have := hb.2; omega⟩))).there
          have hzq := s63.2.2.2.size
          have hzx := s63.2.2.1.lt
          refine wp_callR 39 #[.slice (some ⟨_, 0, none⟩) 3 3] (by simp [go_sem]) _ (listO_any _ 3 3 _ z63 rW (by omega)) ?_
          rintro e w64 ⟨la, lc, rfl, rO, c64⟩
          clear rW rA rM
          have hLL : ∀ b, (Value.slice la 3 lc).ownBlock = some b → z63.heap.size + 1 ≤ b := fun b hb => (rO.lt b hb).1
          replace rO := rO.le (B' := w.heap.size + 2) (by omega)
          have rA := (rA'.mono (ok' := okO (fun b => (w.heap.size ≤ b ∧ b ≠ w.heap.size + 1) ∧ b ≠ g10) (.slice la 3 lc)) (fun b hb => ⟨hb.1, fun e => by have := hLL b e; have := hb.2; omega⟩)).after c64
          have rM := (rM'.mono (ok' := okO (fun b => (w.heap.size ≤ b ∧ b ≠ w.heap.size + 1) ∧ b ≠ g10) (.slice la 3 lc)) (fun b hb => ⟨hb.1, fun e => by have := hLL b e; have := hb.2; omega⟩)).after c64
          have rS := (rS'.mono (ok' := okO (fun b => (w.heap.size ≤ b ∧ b ≠ w.heap.size + 1) ∧ b ≠ g10) (.slice la 3 lc)) (fun b hb => ⟨hb.1, fun e => by have := hLL b e; have := hb.2; omega⟩)).after c64
          clear rA' rM' rS'
          have hgz := rG.lt
          have hLG : ∀ b, (Value.slice la 3 lc).ownBlock = some b → b ≠ g10 ∧ x3.heap.size ≤ b := fun b hb => by have := hLL b hb; omega
          replace rG := rG.after c64
          refine ⟨_, rfl, hKS _ _ s63 c64, ?_⟩
          simp only [Act.put, List.setIfInBounds_toArray, List.set_cons_zero, List.set_cons_succ]
          clear hzq hzx hLL
          refine wpW_write 9 rfl (by kernel_rfl) (by kernel_rfl) rfl ?_
          intro z65 b65 s65
          replace rG := rG.after b65
          replace rA := rA.after b65
          replace rM := rM.after b65
          replace rS := rS.after b65
          replace rO := rO.after b65
          refine wp_store_box 37 _ _ rfl rG (by rfl) (by rfl) rfl (by kernel_rfl) (by simp [Value.oneCell']) (cells := #[.bool true, .bool false, .slice none 0 0, .slice none 0 0, .slice la 3 lc]) ?_
          intro zx Xx stx
          have Bx := stx.below x3.heap.size x3 lg s65.2.2.2
          have rOx := rO.keep (w' := zx) (Nat.le_of_eq stx.size.symm) (fun b hb => stx.other b (hLG b hb).1)
          have tA := rA.keep (w' := zx) (fun b hb => stx.other b hb.1.2)
          have tM := rM.keep (w' := zx) (fun b hb => stx.other b hb.1.2)
          have tS := rS.keep (w' := zx) (fun b hb => stx.other b hb.1.2)
          simp only [Act.put, List.setIfInBounds_toArray, List.set_cons_zero, List.set_cons_succ]
          refine wpU_done rfl (fun w9 b9 _ => ?_)
          have D := Bx.trans (b9.mono Bx.size)
          have CU : CutC w x3 (w.heap.size + 2) 37 [at1 crL, li [at1 isL, keyS s l], li (sumsK ls)] (.pointer (some ⟨g10, 0, none⟩)) w9 := ⟨g10, la, lc, threeK vA vM (⟨sl, sh, sa1, sn1, sc1, sa2, sn2, sc2, sa3, sn3, sc3⟩ : SV), rfl, lg, Xx.after b9, (rOx.after b9), hLG, (fun i hi => match i, hi with | 0, _ => tA.after b9 | 1, _ => tM.after b9 | 2, _ => tS.after b9), D⟩
          clear D tS tM tA rOx Bx stx Xx b9 rA rM rS rO rG hLG s65 hKS
          go_wp2_with fail
          go_meet
          exact CU
      · intro z11 b11 s11
        refine wp_alloc_new 37 rfl #[.bool false, .bool false, .slice none 0 0, .slice none 0 0, .slice none 0 0] (by intro w; simp [go_sem]) ?_
        intro g10 w66 rG lg0 c66
        have lg : x3.heap.size ≤ g10 := Nat.le_trans s11.2.2.2.size lg0
        refine ⟨hKS _ _ s11 c66, ?_⟩
        simp only [Act.put, List.setIfInBounds_toArray, List.set_cons_zero, List.set_cons_succ]
        clear lg0
        refine wpW_one 0 rfl (by kernel_rfl) rfl rfl ?_
        intro z67 b67 s67
        replace rG := rG.after b67
        refine wp_callR 40 #[.string ⟨#[99, 114, 108]⟩] (by simp [go_sem]) _ (atomI_any (fun b => (w.heap.size ≤ b ∧ b ≠ w.heap.size + 1) ∧ b ≠ g10) ⟨#[99, 114, 108]⟩ (by decide) z67 (fun b hb => by have := s67.2.2.1.lt; have := rG.lt; omega)) ?_
        rintro e w68 ⟨vA, rfl, rA, c68⟩
        replace rG := rG.after c68
        refine ⟨_, rfl, hKS _ _ s67 c68, ?_⟩
        simp only [Act.put, List.setIfInBounds_toArray, List.set_cons_zero, List.set_cons_succ]
        refine wpW_one 1 rfl (by kernel_rfl) rfl rfl ?_
        intro z69 b69 s69
        replace rG := rG.after b69
        replace rA := rA.after b69
        refine wp_callR 40 #[.string ⟨#[105, 115, 115, 117, 101, 114]⟩] (by simp [go_sem]) _ (atomI_any (fun b => (w.heap.size ≤ b ∧ b ≠ w.heap.size + 1) ∧ b ≠ g10) ⟨#[105, 115, 115, 117, 101, 114]⟩ (by decide) z69 (fun b hb => by have := s69.2.2.1.lt; have := rG.lt; omega)) ?_
        rintro e w70 ⟨vB, rfl, rB, c70⟩
        replace rG := rG.after c70
        replace rA := rA.after c70
        refine ⟨_, rfl, hKS _ _ s69 c70, ?_⟩
        simp only [Act.put, List.setIfInBounds_toArray, List.set_cons_zero, List.set_cons_succ]
        refine wpW_one 3 rfl (by kernel_rfl) rfl rfl ?_
        intro z71 b71 s71
        replace rG := rG.after b71
        replace rA := rA.after b71
        replace rB := rB.after b71
        refine wp_of_run (.slice (some ⟨z71.heap.size, 0, none⟩) 2 2) (z71.alloc (.cells #[.bool vB.l, .bool vB.h, .slice vB.a1 vB.n1 vB.c1, .slice vB.a2 vB.n2 vB.c2, .slice vB.a3 vB.n3 vB.c3, .bool (⟨kl, kh, ka1, kn1, kc1, ka2, kn2, kc2, ka3, kn3, kc3⟩ : SV).l, .bool (⟨kl, kh, ka1, kn1, kc1, ka2, kn2, kc2, ka3, kn3, kc3⟩ : SV).h, .slice (⟨kl, kh, ka1, kn1, kc1, ka2, kn2, kc2, ka3, kn3, kc3⟩ : SV).a1 (⟨kl, kh, ka1, kn1, kc1, ka2, kn2, kc2, ka3, kn3, kc3⟩ : SV).n1 (⟨kl, kh, ka1, kn1, kc1, ka2, kn2, kc2, ka3, kn3, kc3⟩ : SV).c1, .slice (⟨kl, kh, ka1, kn1, kc1, ka2, kn2, kc2, ka3, kn3, kc3⟩ : SV).a2 (⟨kl, kh, ka1, kn1, kc1, ka2, kn2, kc2, ka3, kn3, kc3⟩ : SV).n2 (⟨kl, kh, ka1, kn1, kc1, ka2, kn2, kc2, ka3, kn3, kc3⟩ : SV).c2, .slice (⟨kl, kh, ka1, kn1, kc1, ka2, kn2, kc2, ka3, kn3, kc3⟩ : SV).a3 (⟨kl, kh, ka1, kn1, kc1, ka2, kn2, kc2, ka3, kn3, kc3⟩ : SV).n3 (⟨kl, kh, ka1, kn1, kc1, ka2, kn2, kc2, ka3, kn3, kc3⟩ : SV).c3] 37)) (by simp [go_sem, SV.val]) ?_
        have c72 : Below z71.heap.size z71 (z71.alloc (.cells #[.bool vB.l, .bool vB.h, .slice vB.a1 vB.n1 vB.c1, .slice vB.a2 vB.n2 vB.c2, .slice vB.a3 vB.n3 vB.c3, .bool (⟨kl, kh, ka1, kn1, kc1, ka2, kn2, kc2, ka3, kn3, kc3⟩ : SV).l, .bool (⟨kl, kh, ka1, kn1, kc1, ka2, kn2, kc2, ka3, kn3, kc3⟩ : SV).h, .slice (⟨kl, kh, ka1, kn1, kc1, ka2, kn2, kc2, ka3, kn3, kc3⟩ : SV).a1 (⟨kl, kh, ka1, kn1, kc1, ka2, kn2, kc2, ka3, kn3, kc3⟩ : SV).n1 (⟨kl, kh, ka1, kn1, kc1, ka2, kn2, kc2, ka3, kn3, kc3⟩ : SV).c1, .slice (⟨kl, kh, ka1, kn1, kc1, ka2, kn2, kc2, ka3, kn3, kc3⟩ : SV).a2 (⟨kl, kh, ka1, kn1, kc1, ka2, kn2, kc2, ka3, kn3, kc3⟩ : SV).n2 (⟨kl, kh, ka1, kn1, kc1, ka2, kn2, kc2, ka3, kn3, kc3⟩ : SV).c2, .slice (⟨kl, kh, ka1, kn1, kc1, ka2, kn2, kc2, ka3, kn3, kc3⟩ : SV).a3 (⟨kl, kh, ka1, kn1, kc1, ka2, kn2, kc2, ka3, kn3, kc3⟩ : SV).n3 (⟨kl, kh, ka1, kn1, kc1, ka2, kn2, kc2, ka3, kn3, kc3⟩ : SV).c3] 37)) := (Below.refl _ _).alloc (Nat.le_refl _) _
        have rW := row_two z71 vB (⟨kl, kh, ka1, kn1, kc1, ka2, kn2, kc2, ka3, kn3, kc3⟩ : SV) 37
        replace rG := rG.after c72
        replace rA := rA.after c72
        replace rB := rB.after c72
        refine ⟨hKS _ _ s71 c72, ?_⟩
        simp only [Act.put, List.setIfInBounds_toArray, List.set_cons_zero, List.set_cons_succ]
        generalize (z71.alloc (.cells #[.bool vB.l, .bool vB.h, .slice vB.a1 vB.n1 vB.c1, .slice vB.a2 vB.n2 vB.c2, .slice vB.a3 vB.n3 vB.c3, .bool (⟨kl, kh, ka1, kn1, kc1, ka2, kn2, kc2, ka3, kn3, kc3⟩ : SV).l, .bool (⟨kl, kh, ka1, kn1, kc1, ka2, kn2, kc2, ka3, kn3, kc3⟩ : SV).h, .slice (⟨kl, kh, ka1, kn1, kc1, ka2, kn2, kc2, ka3, kn3, kc3⟩ : SV).a1 (⟨kl, kh, ka1, kn1, kc1, ka2, kn2, kc2, ka3, kn3, kc3⟩ : SV).n1 (⟨kl, kh, ka1, kn1, kc1, ka2, kn2, kc2, ka3, kn3, kc3⟩ : SV).c1, .slice (⟨kl, kh, ka1, kn1, kc1, ka2, kn2, kc2, ka3, kn3, kc3⟩ : SV).a2 (⟨kl, kh, ka1, kn1, kc1, ka2, kn2, kc2, ka3, kn3, kc3⟩ : SV).n2 (⟨kl, kh, ka1, kn1, kc1, ka2, kn2, kc2, ka3, kn3, kc3⟩ : SV).c2, .slice (⟨kl, kh, ka1, kn1, kc1, ka2, kn2, kc2, ka3, kn3, kc3⟩ : SV).a3 (⟨kl, kh, ka1, kn1, kc1, ka2, kn2, kc2, ka3, kn3, kc3⟩ : SV).n3 (⟨kl, kh, ka1, kn1, kc1, ka2, kn2, kc2, ka3, kn3, kc3⟩ : SV).c3] 37)) = y72 at *
        refine wpW_one 4 rfl (by kernel_rfl) rfl rfl ?_
        intro z73 b73 s73
        replace rG := rG.after b73
        replace rA := rA.after b73
        replace rB := rB.after b73
        replace rW := rW.after b73
        refine wp_callR 39 #[.slice (some ⟨_, 0, none⟩) 2 2] (by simp [go_sem]) _ (listI_any (fun b => (w.heap.size ≤ b ∧ b ≠ w.heap.size + 1) ∧ b ≠ g10) _ 2 2 _ [at1 isL, keyS s l] z73 rW (by omega) rfl (fun i hi => match i, hi with | 0, _ => rB | 1, _ => (s73.2.1.1.mono (ok' := (fun b => (w.heap.size ≤ b ∧ b ≠ w.heap.size + 1) ∧ b ≠ g10)) (fun b hb => ⟨hb.1, by have := hb.2; omega⟩))) (fun b hb => by have := s73.2.2.1.lt; have := rG.lt; omega)) ?_
        rintro e w74 ⟨vM, rfl, rM, c74⟩
        clear rW
        replace rG := rG.after c74
        replace rA := rA.after c74
        replace rB := rB.after c74
        refine ⟨_, rfl, hKS _ _ s73 c74, ?_⟩
        simp only [Act.put, List.setIfInBounds_toArray, List.set_cons_zero, List.set_cons_succ]
        refine wpW_one 6 rfl (by kernel_rfl) rfl rfl ?_
        intro z75 b75 s75
        replace rG := rG.after b75
        replace rA := rA.after b75
        replace rB := rB.after b75
        replace rM := rM.after b75
        refine wp_of_run (.slice (some ⟨z75.heap.size, 0, none⟩) 3 3) (z75.alloc (.cells #[.bool vA.l, .bool vA.h, .slice vA.a1 vA.n1 vA.c1, .slice vA.a2 vA.n2 vA.c2, .slice vA.a3 vA.n3 vA.c3, .bool vM.l, .bool vM.h, .slice vM.a1 vM.n1 vM.c1, .slice vM.a2 vM.n2 vM.c2, .slice vM.a3 vM.n3 vM.c3, .bool (⟨sl, sh, sa1, sn1, sc1, sa2, sn2, sc2, sa3, sn3, sc3⟩ : SV).l, .bool (⟨sl, sh, sa1, sn1, sc1, sa2, sn2, sc2, sa3, sn3, sc3⟩ : SV).h, .slice (⟨sl, sh, sa1, sn1, sc1, sa2, sn2, sc2, sa3, sn3, sc3⟩ : SV).a1 (⟨sl, sh, sa1, sn1, sc1, sa2, sn2, sc2, sa3, sn3, sc3⟩ : SV).n1 (⟨sl, sh, sa1, sn1, sc1, sa2, sn2, sc2, sa3, sn3, sc3⟩ : SV).c1, .slice (⟨sl, sh, sa1, sn1, sc1, sa2, sn2, sc2, sa3, sn3, sc3⟩ : SV).a2 (⟨sl, sh, sa1, sn1, sc1, sa2, sn2, sc2, sa3, sn3, sc3⟩ : SV).n2 (⟨sl, sh, sa1, sn1, sc1, sa2, sn2, sc2, sa3, sn3, sc3⟩ : SV).c2, .slice (⟨sl, sh, sa1, sn1, sc1, sa2, sn2, sc2, sa3, sn3, sc3⟩ : SV).a3 (⟨sl, sh, sa1, sn1, sc1, sa2, sn2, sc2, sa3, sn3, sc3⟩ : SV).n3 (⟨sl, sh, sa1, sn1, sc1, sa2, sn2, sc2, sa3, sn3, sc3⟩ : SV).c3] 37)) (by simp [go_sem, SV.val]) ?_
        have c76 : Below z75.heap.size z75 (z75.alloc (.cells #[.bool vA.l, .bool vA.h, .slice vA.a1 vA.n1 vA.c1, .slice vA.a2 vA.n2 vA.c2, .slice vA.a3 vA.n3 vA.c3, .bool vM.l, .bool vM.h, .slice vM.a1 vM.n1 vM.c1, .slice vM.a2 vM.n2 vM.c2, .slice vM.a3 vM.n3 vM.c3, .bool (⟨sl, sh, sa1, sn1, sc1, sa2, sn2, sc2, sa3, sn3, sc3⟩ : SV).l, .bool (⟨sl, sh, sa1, sn1, sc1, sa2, sn2, sc2, sa3, sn3, sc3⟩ : SV).h, .slice (⟨sl, sh, sa1, sn1, sc1, sa2, sn2, sc2, sa3, sn3, sc3⟩ : SV).a1 (⟨sl, sh, sa1, sn1, sc1, sa2, sn2, sc2, sa3, sn3, sc3⟩ : SV).n1 (⟨sl, sh, sa1, sn1, sc1, sa2, sn2, sc2, sa3, sn3, sc3⟩ : SV).c1, .slice (⟨sl, sh, sa1, sn1, sc1, sa2, sn2, sc2, sa3, sn3, sc3⟩ : SV).a2 (⟨sl, sh, sa1, sn1, sc1, sa2, sn2, sc2, sa3, sn3, sc3⟩ : SV).n2 (⟨sl, sh, sa1, sn1, sc1, sa2, sn2, sc2, sa3, sn3, sc3⟩ : SV).c2, .slice (⟨sl, sh, sa1, sn1, sc1, sa2, sn2, sc2, sa3, sn3, sc3⟩ : SV).a3 (⟨sl, sh, sa1, sn1, sc1, sa2, sn2, sc2, sa3, sn3, sc3⟩ : SV).n3 (⟨sl, sh, sa1, sn1, sc1, sa2, sn2, sc2, sa3, sn3, sc3⟩ : SV).c3] 37)) := (Below.refl _ _).alloc (Nat.le_refl _) _
        have rW := row_three z75 vA vM (⟨sl, sh, sa1, sn1, sc1, sa2, sn2, sc2, sa3, sn3, sc3⟩ : SV) 37
        replace rG := rG.after c76
        replace rA := rA.after c76
        replace rB := rB.after c76
        replace rM := rM.after c76
        refine ⟨hKS _ _ s75 c76, ?_⟩
        simp only [Act.put, List.setIfInBounds_toArray, List.set_cons_zero, List.set_cons_succ]
        generalize (z75.alloc (.cells #[.bool vA.l, .bool vA.h, .slice vA.a1 vA.n1 vA.c1, .slice vA.a2 vA.n2 vA.c2, .slice vA.a3 vA.n3 vA.c3, .bool vM.l, .bool vM.h, .slice vM.a1 vM.n1 vM.c1, .slice vM.a2 vM.n2 vM.c2, .slice vM.a3 vM.n3 vM.c3, .bool (⟨sl, sh, sa1, sn1, sc1, sa2, sn2, sc2, sa3, sn3, sc3⟩ : SV).l, .bool (⟨sl, sh, sa1, sn1, sc1, sa2, sn2, sc2, sa3, sn3, sc3⟩ : SV).h, .slice (⟨sl, sh, sa1, sn1, sc1, sa2, sn2, sc2, sa3, sn3, sc3⟩ : SV).a1 (⟨sl, sh, sa1, sn1, sc1, sa2, sn2, sc2, sa3, sn3, sc3⟩ : SV).n1 (⟨sl, sh, sa1, sn1, sc1, sa2, sn2, sc2, sa3, sn3, sc3⟩ : SV).c1, .slice (⟨sl, sh, sa1, sn1, sc1, sa2, sn2, sc2, sa3, sn3, sc3⟩ : SV).a2 (⟨sl, sh, sa1, sn1, sc1, sa2, sn2, sc2, sa3, sn3, sc3⟩ : SV).n2 (⟨sl, sh, sa1, sn1, sc1, sa2, sn2, sc2, sa3, sn3, sc3⟩ : SV).c2, .slice (⟨sl, sh, sa1, sn1, sc1, sa2, sn2, sc2, sa3, sn3, sc3⟩ : SV).a3 (⟨sl, sh, sa1, sn1, sc1, sa2, sn2, sc2, sa3, sn3, sc3⟩ : SV).n3 (⟨sl, sh, sa1, sn1, sc1, sa2, sn2, sc2, sa3, sn3, sc3⟩ : SV).c3] 37)) = y76 at *
        refine wpW_one 7 rfl (by kernel_rfl) rfl rfl ?_
        intro z77 b77 s77
        replace rG := rG.after b77
        replace rA := rA.after b77
        replace rB := rB.after b77
        replace rM := rM.after b77
        replace rW := rW.after b77
        have rA' := rA.there
        have rM' := rM.there
        have rS' : RdI (fun b => ((fun b => (w.heap.size ≤ b ∧ b ≠ w.heap.size + 1) ∧ b ≠ g10) b) ∧ b < z77.heap.size) z77 (⟨sl, sh, sa1, sn1, sc1, sa2, sn2, sc2, sa3, sn3, sc3⟩ : SV) (li (sumsK ls)) := ((s77.2.1.2.mono (ok' := (fun b => (w.heap.size ≤ b ∧ b ≠ w.heap.size + 1) ∧ b ≠ g10)) (fun b hb => ⟨hb.1, by have := hb.2; omega⟩))).there
        have hzq := s77.2.2.2.size
        have hzx := s77.2.2.1.lt
        refine wp_callR 39 #[.slice (some ⟨_, 0, none⟩) 3 3] (by simp [go_sem]) _ (listO_any _ 3 3 _ z77 rW (by omega)) ?_
        rintro e w78 ⟨la, lc, rfl, rO, c78⟩
        clear rW rA rM
        have hLL : ∀ b, (Value.slice la 3 lc).ownBlock = some b → z77.heap.size + 1 ≤ b := fun b hb => (rO.lt b hb).1
        replace rO := rO.le (B' := w.heap.size + 2) (by omega)
        have rA := (rA'.mono (ok' := okO (fun b => (w.heap.size ≤ b ∧ b ≠ w.heap.size + 1) ∧ b ≠ g10) (.slice la 3 lc)) (fun b hb => ⟨hb.1, fun e => by have := hLL b e; have := hb.2; omega⟩)).after c78
        have rM := (rM'.mono (ok' := okO (fun b => (w.heap.size ≤ b ∧ b ≠ w.heap.size + 1) ∧ b ≠ g10) (.slice la 3 lc)) (fun b hb => ⟨hb.1, fun e => by have := hLL b e; have := hb.2; omega⟩)).after c78
        have rS := (rS'.mono (ok' := okO (fun b => (w.heap.size ≤ b ∧ b ≠ w.heap.size + 1) ∧ b ≠ g10) (.slice la 3 lc)) (fun b hb => ⟨hb.1, fun e => by have := hLL b e; have := hb.2; omega⟩)).after c78
        clear rA' rM' rS'
        have hgz := rG.lt
        have hLG : ∀ b, (Value.slice la 3 lc).ownBlock = some b → b ≠ g10 ∧ x3.heap.size ≤ b := fun b hb => by have := hLL b hb; omega
        replace rG := rG.after c78
        refine ⟨_, rfl, hKS _ _ s77 c78, ?_⟩
        simp only [Act.put, List.setIfInBounds_toArray, List.set_cons_zero, List.set_cons_succ]
        clear hzq hzx hLL
        refine wpW_write 9 rfl (by kernel_rfl) (by kernel_rfl) rfl ?_
        intro z79 b79 s79
        replace rG := rG.after b79
        replace rA := rA.after b79
        replace rM := rM.after b79
        replace rS := rS.after b79
        replace rO := rO.after b79
        refine wp_store_box 37 _ _ rfl rG (by rfl) (by rfl) rfl (by kernel_rfl) (by simp [Value.oneCell']) (cells := #[.bool true, .bool false, .slice none 0 0, .slice none 0 0, .slice la 3 lc]) ?_
        intro zx Xx stx
        have Bx := stx.below x3.heap.size x3 lg s79.2.2.2
        have rOx := rO.keep (w' := zx) (Nat.le_of_eq stx.size.symm) (fun b hb => stx.other b (hLG b hb).1)
        have tA := rA.keep (w' := zx) (fun b hb => stx.other b hb.1.2)
        have tM := rM.keep (w' := zx) (fun b hb => stx.other b hb.1.2)
        have tS := rS.keep (w' := zx) (fun b hb => stx.other b hb.1.2)
        simp only [Act.put, List.setIfInBounds_toArray, List.set_cons_zero, List.set_cons_succ]
        refine wpU_done rfl (fun w9 b9 _ => ?_)
        have D := Bx.trans (b9.mono Bx.size)
        have CU : CutC w x3 (w.heap.size + 2) 37 [at1 crL, li [at1 isL, keyS s l], li (sumsK ls)] (.pointer (some ⟨g10, 0, none⟩)) w9 := ⟨g10, la, lc, threeK vA vM (⟨sl, sh, sa1, sn1, sc1, sa2, sn2, sc2, sa3, sn3, sc3⟩ : SV), rfl, lg, Xx.after b9, (rOx.after b9), hLG, (fun i hi => match i, hi with | 0, _ => tA.after b9 | 1, _ => tM.after b9 | 2, _ => tS.after b9), D⟩
        clear D tS tM tA rOx Bx stx Xx b9 rA rM rS rO rG hLG s79 hKS
        go_wp2_with fail
        go_meet
        exact CU
    case rest =>
      obtain ⟨g10, la, lc, KK, rfl, lg, Gx, O, hOG, KD, D⟩ := hcut
      have hxq := X.out.lt
      have hD := Lib.hid D
      have RV := rv
      replace K := Lib.hid (K.out.after D)
      replace X := Lib.hid (X.out.after D)
      replace ht := Lib.hid (ht.out.after D)
      replace rk := Lib.hid (rk.out.after D)
      replace Yk := Lib.hid (Yk.out.after D)
      replace rs := Lib.hid (rs.out.after D)
      replace Ys := Lib.hid (Ys.out.after D)
      replace rv := Lib.hid (rv.out.after D)
      replace Yv := Lib.hid (Yv.out.after D)
      replace B := B.trans (D.mono B.size)
      clear D
      clear rk rs Yk Ys
      replace Gx := Lib.hid Gx
      replace O := Lib.hid O
      replace hOG := Lib.hid hOG
      replace KD := Lib.hid KD
      by_cases hpq : (p || q) = true
      case neg =>
        obtain ⟨rfl, rfl⟩ : p = false ∧ q = false := by cases p <;> cases q <;> simp at hpq <;> exact ⟨rfl, rfl⟩
        have HWM := HWI.out hv.out
        obtain ⟨rfl, rfl⟩ : f = 0 ∧ t = 0 := ⟨or_zero HWM.1 rfl, or_zero HWM.2 rfl⟩
        clear HWM hpq HWI
        go_upto_region 9 with (refine wpList_load_mid rfl 27 _ rfl w.heap.size 3 rfl [.bool false, .int .i64 0, .bool false, .int .i64 0] _ (Box.mid K.out 3 _ (mid4 rfl rfl rfl rfl)) Tryd.underlying27 rfl (by kernel_rfl) ?_)
        have HTT := HT.out HF.out
        have HTA := Lib.hid (show (li ([at1 crL, li [at1 isL, keyS s l], li (sumsK ls)])).may = true ∧ (li ([at1 crL, li [at1 isL, keyS s l], li (sumsK ls)])).wide 0 = false from by have h := HTT; rw [HTR.out, if_neg (by simp), List.append_nil] at h; exact h)
        clear HTT HT
        obtain ⟨ra, rc, er, hrow, hin⟩ := O.out.row
        cases er
        have RU : Hid (RdI (fun b => (w.heap.size ≤ b ∧ b ≠ w.heap.size + 1) ∧ b ≠ g10) wc ⟨true, false, none, 0, 0, none, 0, 0, la, 3, lc⟩ (li ([at1 crL, li [at1 isL, keyS s l], li (sumsK ls)]))) := Lib.hid (rd_list hrow (hin.imp id fun h b o s e => ⟨⟨by have := h b o s e; omega, by have := h b o s e; omega⟩, (hOG.out b (by rw [e]; rfl)).1⟩) rfl (fun i hi => (KD.out i hi).mono (fun _ h => h.1)))
        clear hrow hin KD O
        go_wp2_with (refine wpList_load_box rfl 37 _ rfl Gx.out (by rfl) Tryd.underlying37 rfl (by kernel_rfl) ?_)
        refine (may_any (li ([at1 crL, li [at1 isL, keyS s l], li (sumsK ls)])) ⟨true, false, none, 0, 0, none, 0, 0, la, 3, lc⟩ _ (RU.out.mono (fun _ _ => trivial)) 0 HTA.out.2 ht.out).mono ?_
        rintro e x4 ⟨rfl, bx4⟩
        replace K := Lib.hid (K.out.after bx4)
        replace X := Lib.hid (X.out.after bx4)
        replace ht := Lib.hid (ht.out.after bx4)
        replace rv := Lib.hid (rv.out.after bx4)
        replace Yv := Lib.hid (Yv.out.after bx4)
        replace Gx := Lib.hid (Gx.out.after bx4)
        replace RU := Lib.hid (RU.out.after bx4)
        replace B := B.trans (bx4.mono B.size)
        clear bx4
        rw [HTA.out.1]
        go_wp2_with first | (refine wpList_load_box rfl 37 _ rfl Gx.out (by rfl) Tryd.underlying37 rfl (by kernel_rfl) ?_) | (refine wpList_store_box (cells := #[.bool true, .bool false, .slice none 0 0, .slice none 0 0, .slice la 3 lc]) rfl 37 _ _ rfl X.out (by rfl) (by rfl) rfl (by kernel_rfl) (by simp [Value.oneCell']) ?_; intro u9 X9 st9)
        have B9 := st9.below w.heap.size w (by omega) B
        have R9 := (RU.out.keep (w' := u9) (fun b hb => st9.other b hb.1.2)).mono (ok' := fun b => w.heap.size ≤ b) (fun _ h => h.1.1)
        exact bodyPost_ret (v := .tuple #[.agg #[.bool true, .bool false, .slice none 0 0, .slice none 0 0, .slice la 3 lc], .int .i64 0]) (box_result2 (p := 2) (q := 3) rfl _ _ (by rfl) X9 Tryd.underlying37 rfl (by kernel_rfl)) rfl (.inl ⟨HF.out, ⟨true, false, none, 0, 0, none, 0, 0, la, 3, lc⟩, rfl, by rw [HTR.out, if_neg (by simp), List.append_nil]; exact R9, B9⟩)
      case pos =>
        have HPQ := Lib.hid hpq
        have HWM := Lib.hid (HWI.out hv.out)
        clear HWI
        cases p with
        | true =>
          clear hpq HWM
          go_upto_region 8 with (refine wpList_load_mid rfl 27 _ rfl w.heap.size 3 rfl [.bool true, .int .i64 f, .bool q, .int .i64 t] _ (Box.mid K.out 3 _ (mid4 rfl rfl rfl rfl)) Tryd.underlying27 rfl (by kernel_rfl) ?_)
          have g4 := Gx.out.cell 4 rfl
          have Yv0 := Yv
          have SR := Lib.hid (src1 wc ⟨vl, vh, va1, vn1, vc1, va2, vn2, vc2, va3, vn3, vc3⟩)
          replace rv : Hid (RdI (okO (fun b => (w.heap.size ≤ b ∧ b ≠ w.heap.size + 1) ∧ b ≠ g10) (.slice la 3 lc)) wc ⟨vl, vh, va1, vn1, vc1, va2, vn2, vc2, va3, vn3, vc3⟩ (winS xw)) := Lib.hid ((RV.out.there.mono (fun b hb => ⟨⟨hb.1, by have := hb.2; omega⟩, fun e => by have := (hOG.out b e).2; have := hb.2; omega⟩)).after hD.out)
          have Z1 := Lib.hid (Box.new wc 37 #[.bool vl, .bool vh, .slice va1 vn1 vc1, .slice va2 vn2 vc2, .slice va3 vn3 vc3])
          have ba4 : Below wc.heap.size wc (wc.alloc (.cells #[.bool vl, .bool vh, .slice va1 vn1 vc1, .slice va2 vn2 vc2, .slice va3 vn3 vc3] 37)) := (Below.refl _ _).alloc (Nat.le_refl _) _
          replace K := Lib.hid (K.out.after ba4)
          replace X := Lib.hid (X.out.after ba4)
          replace ht := Lib.hid (ht.out.after ba4)
          replace rv := Lib.hid (rv.out.after ba4)
          replace Yv := Lib.hid (Yv.out.after ba4)
          replace Gx := Lib.hid (Gx.out.after ba4)
          replace O := Lib.hid (O.out.after ba4)
          replace KD := Lib.hid (fun i hi => (KD.out i hi).after ba4)
          replace B := B.trans (ba4.mono B.size)
          clear ba4
          clear Z1
          have OL := Lib.hid O.out.lt
          have hGl := Gx.out.lt
          have hXl := X.out.lt
          go_upto_region 9 with first | (refine wpList_load_box rfl 37 _ rfl Yv0.out (by rfl) Tryd.underlying37 rfl (by kernel_rfl) ?_) | (refine wpList_append_K rfl _ _ rfl rfl O.out rfl SR.out (by omega) (by simp; simp at hXl; omega) ?_; intro v2 w2 ho2 hg2 hw2; rw [newsK_add] at ho2; obtain ⟨ta2, tc2, rfl, _⟩ := ho2.row; have Y3 := Box.grown Gx.out hg2 (fun b hb e => by subst e; exact (hOG.out _ hb).1 rfl); have d4 := Y3.cell 4 rfl; have f4 := Y3.frozen 4)
          have hney : ∀ b, (Value.slice ta2 (3 + 1) tc2).ownBlock = some b → b ≠ g10 ∧ w.heap.size + 2 ≤ b := fun b hb => ⟨(hw2 b hb).elim (fun e => (hOG.out b e).1) (fun e => by omega), (ho2.lt b hb).1⟩
          have B8 : Below w.heap.size w (w2.setCell ⟨g10, 4, none⟩ (.slice ta2 (3 + 1) tc2)) := (B.grown hg2 B.size (fun k hk => by have := OL.out k hk; omega)).setCell (p := ⟨g10, 4, none⟩) (by show w.heap.size ≤ g10; omega) _
          have Y8 : Box (w2.setCell ⟨g10, 4, none⟩ (.slice ta2 (3 + 1) tc2)) g10 37 #[.bool true, .bool false, .slice none 0 0, .slice none 0 0, (.slice ta2 (3 + 1) tc2)] := Y3.set 4 _
          have X8 : Box (w2.setCell ⟨g10, 4, none⟩ (.slice ta2 (3 + 1) tc2)) (w.heap.size + 1) 37 #[.bool false, .bool false, .slice none 0 0, .slice none 0 0, .slice none 0 0] := Box.far (Box.grown X.out hg2 (fun k hk => by have := OL.out k hk; omega)) ⟨g10, 4, none⟩ _ (by show w.heap.size + 1 ≠ g10; omega)
          have O8 : OwnG (w2.setCell ⟨g10, 4, none⟩ (.slice ta2 (3 + 1) tc2)) (w.heap.size + 2) 5 (.slice ta2 (3 + 1) tc2) (3 + 1) (newsK (fun i => if i = 3 then ⟨vl, vh, va1, vn1, vc1, va2, vn2, vc2, va3, vn3, vc3⟩ else KK i) (3 + 1)) := ho2.keep (by simp) (fun b hb => heap_setCell_other _ _ _ _ (hney b hb).1)
          have T8 : Tab (w2.setCell ⟨g10, 4, none⟩ (.slice ta2 (3 + 1) tc2)) := HT0.out.after B8
          have KD8 : Hid (∀ i (hi : i < ([at1 crL, li [at1 isL, keyS s l], li (sumsK ls)] ++ [winS xw]).length), RdI (okO (fun b => (w.heap.size ≤ b ∧ b ≠ w.heap.size + 1) ∧ b ≠ g10) (.slice ta2 (3 + 1) tc2)) (w2.setCell ⟨g10, 4, none⟩ (.slice ta2 (3 + 1) tc2)) (if i = 3 then ⟨vl, vh, va1, vn1, vc1, va2, vn2, vc2, va3, vn3, vc3⟩ else KK i) ([at1 crL, li [at1 isL, keyS s l], li (sumsK ls)] ++ [winS xw])[i]) := Lib.hid (by
            intro i hi
            exact (rows_more rfl KD.out rv.out hg2 hw2 i hi).keep (fun b hb => heap_setCell_other _ _ _ _ hb.1.2))
          have hny8 := Lib.hid hney
          clear Y3 d4 f4 ho2 hg2 hw2 hney X Gx O KD rv SR OL hOG B Yv Yv0 g4 ht K
          generalize (w2.setCell ⟨g10, 4, none⟩ (.slice ta2 (3 + 1) tc2)) = u8 at *
          have B := B8
          have X := Lib.hid X8
          have Gx := Lib.hid Y8
          have O := Lib.hid O8
          have KD := KD8
          have hOG := hny8
          have ht := Lib.hid T8
          clear B8 X8 Y8 O8 KD8 hny8 T8
          have HTT := HT.out HF.out
          have HTA := Lib.hid (show (li ([at1 crL, li [at1 isL, keyS s l], li (sumsK ls)] ++ [winS xw])).may = true ∧ (li ([at1 crL, li [at1 isL, keyS s l], li (sumsK ls)] ++ [winS xw])).wide 0 = false from by have h := HTT; rw [HTR.out, if_pos HPQ.out] at h; exact h)
          clear HTT HT
          obtain ⟨ra, rc, er, hrow, hin⟩ := O.out.row
          cases er
          have RU : Hid (RdI (fun b => (w.heap.size ≤ b ∧ b ≠ w.heap.size + 1) ∧ b ≠ g10) u8 ⟨true, false, none, 0, 0, none, 0, 0, ta2, 4, tc2⟩ (li ([at1 crL, li [at1 isL, keyS s l], li (sumsK ls)] ++ [winS xw]))) := Lib.hid (rd_list hrow (hin.imp id fun h b o s e => ⟨⟨by have := h b o s e; omega, by have := h b o s e; omega⟩, (hOG.out b (by rw [e]; rfl)).1⟩) rfl (fun i hi => (KD.out i hi).mono (fun _ h => h.1)))
          clear hrow hin KD O
          go_wp2_with (refine wpList_load_box rfl 37 _ rfl Gx.out (by rfl) Tryd.underlying37 rfl (by kernel_rfl) ?_)
          refine (may_any (li ([at1 crL, li [at1 isL, keyS s l], li (sumsK ls)] ++ [winS xw])) ⟨true, false, none, 0, 0, none, 0, 0, ta2, 4, tc2⟩ _ (RU.out.mono (fun _ _ => trivial)) 0 HTA.out.2 ht.out).mono ?_
          rintro e x5 ⟨rfl, bx5⟩
          replace X := Lib.hid (X.out.after bx5)
          replace Gx := Lib.hid (Gx.out.after bx5)
          replace ht := Lib.hid (ht.out.after bx5)
          replace RU := Lib.hid (RU.out.after bx5)
          replace B := B.trans (bx5.mono B.size)
          clear bx5
          rw [HTA.out.1]
          go_wp2_with first | (refine wpList_load_box rfl 37 _ rfl Gx.out (by rfl) Tryd.underlying37 rfl (by kernel_rfl) ?_) | (refine wpList_store_box (cells := #[.bool true, .bool false, .slice none 0 0, .slice none 0 0, .slice ta2 4 tc2]) rfl 37 _ _ rfl X.out (by rfl) (by rfl) rfl (by kernel_rfl) (by simp [Value.oneCell']) ?_; intro u9 X9 st9)
          have B9 := st9.below w.heap.size w (by omega) B
          have R9 := (RU.out.keep (w' := u9) (fun b hb => st9.other b hb.1.2)).mono (ok' := fun b => w.heap.size ≤ b) (fun _ h => h.1.1)
          exact bodyPost_ret (v := .tuple #[.agg #[.bool true, .bool false, .slice none 0 0, .slice none 0 0, .slice ta2 4 tc2], .int .i64 0]) (box_result2 (p := 2) (q := 3) rfl _ _ (by rfl) X9 Tryd.underlying37 rfl (by kernel_rfl)) rfl (.inl ⟨HF.out, ⟨true, false, none, 0, 0, none, 0, 0, ta2, 4, tc2⟩, rfl, by rw [HTR.out, if_pos HPQ.out]; exact R9, B9⟩)
        | false =>
          have hq : q = true := by simpa using hpq
          subst hq
          have hf : f = 0 := or_zero HWM.out.1 rfl
          subst hf
          clear hpq HWM
          go_upto_region 8 with (refine wpList_load_mid rfl 27 _ rfl w.heap.size 3 rfl [.bool false, .int .i64 0, .bool true, .int .i64 t] _ (Box.mid K.out 3 _ (mid4 rfl rfl rfl rfl)) Tryd.underlying27 rfl (by kernel_rfl) ?_)
          have g4 := Gx.out.cell 4 rfl
          have Yv0 := Yv
          have SR := Lib.hid (src1 wc ⟨vl, vh, va1, vn1, vc1, va2, vn2, vc2, va3, vn3, vc3⟩)
          replace rv : Hid (RdI (okO (fun b => (w.heap.size ≤ b ∧ b ≠ w.heap.size + 1) ∧ b ≠ g10) (.slice la 3 lc)) wc ⟨vl, vh, va1, vn1, vc1, va2, vn2, vc2, va3, vn3, vc3⟩ (winS xw)) := Lib.hid ((RV.out.there.mono (fun b hb => ⟨⟨hb.1, by have := hb.2; omega⟩, fun e => by have := (hOG.out b e).2; have := hb.2; omega⟩)).after hD.out)
          have Z1 := Lib.hid (Box.new wc 37 #[.bool vl, .bool vh, .slice va1 vn1 vc1, .slice va2 vn2 vc2, .slice va3 vn3 vc3])
          have ba4 : Below wc.heap.size wc (wc.alloc (.cells #[.bool vl, .bool vh, .slice va1 vn1 vc1, .slice va2 vn2 vc2, .slice va3 vn3 vc3] 37)) := (Below.refl _ _).alloc (Nat.le_refl _) _
          replace K := Lib.hid (K.out.after ba4)
          replace X := Lib.hid (X.out.after ba4)
          replace ht := Lib.hid (ht.out.after ba4)
          replace rv := Lib.hid (rv.out.after ba4)
          replace Yv := Lib.hid (Yv.out.after ba4)
          replace Gx := Lib.hid (Gx.out.after ba4)
          replace O := Lib.hid (O.out.after ba4)
          replace KD := Lib.hid (fun i hi => (KD.out i hi).after ba4)
          replace B := B.trans (ba4.mono B.size)
          clear ba4
          clear Z1
          have OL := Lib.hid O.out.lt
          have hGl := Gx.out.lt
          have hXl := X.out.lt
          go_upto_region 9 with first | (refine wpList_load_box rfl 37 _ rfl Yv0.out (by rfl) Tryd.underlying37 rfl (by kernel_rfl) ?_) | (refine wpList_append_K rfl _ _ rfl rfl O.out rfl SR.out (by omega) (by simp; simp at hXl; omega) ?_; intro v2 w2 ho2 hg2 hw2; rw [newsK_add] at ho2; obtain ⟨ta2, tc2, rfl, _⟩ := ho2.row; have Y3 := Box.grown Gx.out hg2 (fun b hb e => by subst e; exact (hOG.out _ hb).1 rfl); have d4 := Y3.cell 4 rfl; have f4 := Y3.frozen 4)
          have hney : ∀ b, (Value.slice ta2 (3 + 1) tc2).ownBlock = some b → b ≠ g10 ∧ w.heap.size + 2 ≤ b := fun b hb => ⟨(hw2 b hb).elim (fun e => (hOG.out b e).1) (fun e => by omega), (ho2.lt b hb).1⟩
          have B8 : Below w.heap.size w (w2.setCell ⟨g10, 4, none⟩ (.slice ta2 (3 + 1) tc2)) := (B.grown hg2 B.size (fun k hk => by have := OL.out k hk; omega)).setCell (p := ⟨g10, 4, none⟩) (by show w.heap.size ≤ g10; omega) _
          have Y8 : Box (w2.setCell ⟨g10, 4, none⟩ (.slice ta2 (3 + 1) tc2)) g10 37 #[.bool true, .bool false, .slice none 0 0, .slice none 0 0, (.slice ta2 (3 + 1) tc2)] := Y3.set 4 _
          have X8 : Box (w2.setCell ⟨g10, 4, none⟩ (.slice ta2 (3 + 1) tc2)) (w.heap.size + 1) 37 #[.bool false, .bool false, .slice none 0 0, .slice none 0 0, .slice none 0 0] := Box.far (Box.grown X.out hg2 (fun k hk => by have := OL.out k hk; omega)) ⟨g10, 4, none⟩ _ (by show w.heap.size + 1 ≠ g10; omega)
          have O8 : OwnG (w2.setCell ⟨g10, 4, none⟩ (.slice ta2 (3 + 1) tc2)) (w.heap.size + 2) 5 (.slice ta2 (3 + 1) tc2) (3 + 1) (newsK (fun i => if i = 3 then ⟨vl, vh, va1, vn1, vc1, va2, vn2, vc2, va3, vn3, vc3⟩ else KK i) (3 + 1)) := ho2.keep (by simp) (fun b hb => heap_setCell_other _ _ _ _ (hney b hb).1)
          have T8 : Tab (w2.setCell ⟨g10, 4, none⟩ (.slice ta2 (3 + 1) tc2)) := HT0.out.after B8
          have KD8 : Hid (∀ i (hi : i < ([at1 crL, li [at1 isL, keyS s l], li (sumsK ls)] ++ [winS xw]).length), RdI (okO (fun b => (w.heap.size ≤ b ∧ b ≠ w.heap.size + 1) ∧ b ≠ g10) (.slice ta2 (3 + 1) tc2)) (w2.setCell ⟨g10, 4, none⟩ (.slice ta2 (3 + 1) tc2)) (if i = 3 then ⟨vl, vh, va1, vn1, vc1, va2, vn2, vc2, va3, vn3, vc3⟩ else KK i) ([at1 crL, li [at1 isL, keyS s l], li (sumsK ls)] ++ [winS xw])[i]) := Lib.hid (by
            intro i hi
            exact (rows_more rfl KD.out rv.out hg2 hw2 i hi).keep (fun b hb => heap_setCell_other _ _ _ _ hb.1.2))
          have hny8 := Lib.hid hney
          clear Y3 d4 f4 ho2 hg2 hw2 hney X Gx O KD rv SR OL hOG B Yv Yv0 g4 ht K
          generalize (w2.setCell ⟨g10, 4, none⟩ (.slice ta2 (3 + 1) tc2)) = u8 at *
          have B := B8
          have X := Lib.hid X8
          have Gx := Lib.hid Y8
          have O := Lib.hid O8
          have KD := KD8
          have hOG := hny8
          have ht := Lib.hid T8
          clear B8 X8 Y8 O8 KD8 hny8 T8
          have HTT := HT.out HF.out
          have HTA := Lib.hid (show (li ([at1 crL, li [at1 isL, keyS s l], li (sumsK ls)] ++ [winS xw])).may = true ∧ (li ([at1 crL, li [at1 isL, keyS s l], li (sumsK ls)] ++ [winS xw])).wide 0 = false from by have h := HTT; rw [HTR.out, if_pos HPQ.out] at h; exact h)
          clear HTT HT
          obtain ⟨ra, rc, er, hrow, hin⟩ := O.out.row
          cases er
          have RU : Hid (RdI (fun b => (w.heap.size ≤ b ∧ b ≠ w.heap.size + 1) ∧ b ≠ g10) u8 ⟨true, false, none, 0, 0, none, 0, 0, ta2, 4, tc2⟩ (li ([at1 crL, li [at1 isL, keyS s l], li (sumsK ls)] ++ [winS xw]))) := Lib.hid (rd_list hrow (hin.imp id fun h b o s e => ⟨⟨by have := h b o s e; omega, by have := h b o s e; omega⟩, (hOG.out b (by rw [e]; rfl)).1⟩) rfl (fun i hi => (KD.out i hi).mono (fun _ h => h.1)))
          clear hrow hin KD O
          go_wp2_with (refine wpList_load_box rfl 37 _ rfl Gx.out (by rfl) Tryd.underlying37 rfl (by kernel_rfl) ?_)
          refine (may_any (li ([at1 crL, li [at1 isL, keyS s l], li (sumsK ls)] ++ [winS xw])) ⟨true, false, none, 0, 0, none, 0, 0, ta2, 4, tc2⟩ _ (RU.out.mono (fun _ _ => trivial)) 0 HTA.out.2 ht.out).mono ?_
          rintro e x5 ⟨rfl, bx5⟩
          replace X := Lib.hid (X.out.after bx5)
          replace Gx := Lib.hid (Gx.out.after bx5)
          replace ht := Lib.hid (ht.out.after bx5)
          replace RU := Lib.hid (RU.out.after bx5)
          replace B := B.trans (bx5.mono B.size)
          clear bx5
          rw [HTA.out.1]
          go_wp2_with first | (refine wpList_load_box rfl 37 _ rfl Gx.out (by rfl) Tryd.underlying37 rfl (by kernel_rfl) ?_) | (refine wpList_store_box (cells := #[.bool true, .bool false, .slice none 0 0, .slice none 0 0, .slice ta2 4 tc2]) rfl 37 _ _ rfl X.out (by rfl) (by rfl) rfl (by kernel_rfl) (by simp [Value.oneCell']) ?_; intro u9 X9 st9)
          have B9 := st9.below w.heap.size w (by omega) B
          have R9 := (RU.out.keep (w' := u9) (fun b hb => st9.other b hb.1.2)).mono (ok' := fun b => w.heap.size ≤ b) (fun _ h => h.1.1)
          exact bodyPost_ret (v := .tuple #[.agg #[.bool true, .bool false, .slice none 0 0, .slice none 0 0, .slice ta2 4 tc2], .int .i64 0]) (box_result2 (p := 2) (q := 3) rfl _ _ (by rfl) X9 Tryd.underlying37 rfl (by kernel_rfl)) rfl (.inl ⟨HF.out, ⟨true, false, none, 0, 0, none, 0, 0, ta2, 4, tc2⟩, rfl, by rw [HTR.out, if_pos HPQ.out]; exact R9, B9⟩)

end Go.Proofs.YticjhogofoffmaaDoor

import Derived.Test.YtmmkaclmgnpplaaGreatDoorMz34
set_option maxRecDepth 100000
set_option maxHeartbeats 64000000
set_option linter.unusedSimpArgs false
set_option linter.unusedVariables false
namespace Go.Proofs.YtmmkaclmgnpplaaGreatDoor
open Go.RowKit
theorem RowAt.tail {w : World} {b o n c : Nat} {K : Nat → SV} (h : RowAt w (some ⟨b, o, none⟩) (n + 1) (c + 1) K) : RowAt w (some ⟨b, o + 5, none⟩) n c (fun i => K (i + 1)) := by
 obtain ⟨h1, h2, h3, h4⟩ := h
 refine ⟨by omega, by omega, (fun h => by cases h), ?_⟩
 rcases h4 with h4 | ⟨b', o', e, h4⟩
 ·omega
 ·cases e
  refine .inr ⟨b, o + 5, rfl, fun i hi j v hv => ?_⟩
  have := h4 (i + 1) (by omega) j v hv
  rwa [show o + (i + 1) * 5 + j = o + 5 + i * 5 + j by omega] at this
theorem jg {w w' : World} {b o : Nat} {cs : List Value} (hb : b < w.heap.size) (h : w.rangeAt b o cs) (B : Below w.heap.size w w') : w'.rangeAt b o cs :=
 fun j v hv => (World.cell?_of_block (a := ⟨b, o + j, none⟩) (B.block b hb)).trans (h j v hv)
theorem pD (a : Option Addr) (c1 : Nat) (K : Nat → SV) (ss : List Sx) (ts : List Tg) (w : World) (hr : RowAt w a (ss.length + 1) c1 K) (h0 : Rd w (K 0) (at1 setL)) (hk : ∀ i (hi : i < ss.length), Rd w (K (i + 1)) ss[i]) (dh : ss.length = ts.length) (hn : ss.length ≤ 1000) (F1 : 0 < ss.length) (hg : ∀ i (h : i < ss.length) (h2 : i < ts.length), GetOk ss[i] ts[i]) :
  Calls Tryz.prog 100 #[.slice a ((ss.length + 1 : Nat)) c1] w (TagP (.mk 4 [] ts noR) w) := by
 obtain ⟨b, o, rfl, a8⟩ := hr.range (i := 0) (by omega)
 have HR := I5 hr
 rw [show o + 0 * 5 = o by omega] at a8
 have H0 := I5 h0
 have ie := hr.1
 have ea := hr.2.1
 unfold maxLen at ea
 clear hr h0
 obtain ⟨k0, cL⟩ : ∃ k0, k0 = K 0 := ⟨_, rfl⟩
 rw [← cL] at a8 H0
 clear cL
 obtain ⟨kl, kh, sX, sR, sU, sW, sQ, sT, sV, sP, sS⟩ := k0
 replace a8 : w.rangeAt b o [.bool kl, .bool kh, .slice sX sR sU, .slice sW sQ sT, .slice sV sP sS] := a8
 have lq : b < w.heap.size := cA (a8 0 _ rfl)
 have HK := I5 hk
 have HG := I5 hg
 have BJ := I5 dh
 clear hk hg dh
 obtain ⟨c, rfl⟩ : ∃ c2, c1 = c2 + 1 := ⟨c1 - 1, by omega⟩
 have Gb : ((ss.length : Int) + 1 == 0) = false := beq_eq_false_iff_ne.mpr (by omega)
 have na : (1 : Int) < (c : Int) + 1 := by omega
 let x0 := (w.alloc (.cells #[.int .u8 0, .slice none 0 0, .slice none 0 0, .int .u8 0, .bool false, .bool false, .slice none 0 0, .bool false, .bool false, .slice none 0 0] 29))
 have B : Below w.heap.size w x0 := (Below.refl _ _).alloc (Nat.le_refl _) _
 have Y : Hid (Box x0 w.heap.size 29 #[.int .u8 0, .slice none 0 0, .slice none 0 0, .int .u8 0, .bool false, .bool false, .slice none 0 0, .bool false, .bool false, .slice none 0 0]) := I5 (Box.new _ _ _)
 go_enter Tryz.func100, Tryz.ntmps100
 go_upto_region 1 with fail
 change Code.wp _ _ _ _ x0
 clear_value x0
 have HL := I5 (jg lq a8 B)
 clear a8
 go_wp2_with (refine ai rfl 32 _ rfl b _ rfl _ _ HL.out Tryz.underlying32 rfl (by kernel_rfl) ?_)
 refine (iR setL [] ⟨kl, kh, sX, sR, sU, sW, sQ, sT, sV, sP, sS⟩ x0 (H0.out.after B) (by decide)).mono ?_
 rintro e x1 ⟨v9, rfl, o9, bx1⟩
 replace Y := I5 (Y.out.after bx1)
 replace B := B.trans (bx1.mono B.size)
 clear bx1
 obtain ⟨p9, q9, rfl, hsl⟩ := o9.sl
 have HC := bv hsl
 clear o9 hsl HL
 go_wp2_with fail
 refine (pB (some ⟨b, o + 5, none⟩) c (fun i => K (i + 1)) ss ts x1 ((HR.out.after B).tail) (fun i hi => (HK.out i hi).after B) BJ.out hn HG.out).mono ?_
 rintro e y1 ⟨tv, TK, rfl, ho, hm, cd⟩
 have uk := Y.out.lt
 obtain ⟨ta, tc, rfl, ah, jb⟩ := ho.rowT
 have Fk := I5 ah
 have Dj := I5 jb
 have HM := I5 hm
 have iX := I5 ho.lt
 clear ho hm ah jb HC
 replace Y := I5 (Y.out.after cd)
 replace B := B.trans (cd.mono B.size)
 clear cd
 go_wp2_with (refine ac (cells := #[.int .u8 4, .slice none 0 0, .slice ta ts.length tc, .int .u8 0, .bool false, .bool false, .slice none 0 0, .bool false, .bool false, .slice none 0 0]) rfl 29 _ _ rfl Y.out (by rfl) (by rfl) rfl (by kernel_rfl) (by simp [Value.oneCell']) ?_; intro u9 X9 st9)
 have B9 := st9.below w.heap.size w (by omega) B
 have R9 : RdT (fun b => w.heap.size ≤ b) u9 ⟨4, none, 0, 0, ta, ts.length, tc, 0, false, false, none, 0, 0, false, false, none, 0, 0⟩ (.mk 4 [] ts noR) := hG _ u9 4 (by omega) ta ts.length tc TK ts (Fk.out.keep (Dj.out.imp id fun h b o s e => st9.other b (by have h1 : x1.heap.size ≤ b := h b o s e; omega))) (Dj.out.mono (fun b hb => by have h1 : x1.heap.size ≤ b := hb; show w.heap.size ≤ b; omega)) rfl (fun i hi => ((HM.out i hi).keep (fun b hb => st9.other b (by have h1 : x1.heap.size ≤ b := hb.1; omega))).mono (fun b hb => by have h1 : x1.heap.size ≤ b := hb.1; show w.heap.size ≤ b; omega))
 exact bodyPost_ret (v := .agg #[.int .u8 4, .slice none 0 0, .slice ta ts.length tc, .int .u8 0, .bool false, .bool false, .slice none 0 0, .bool false, .bool false, .slice none 0 0]) (ae rfl _ _ (by rfl) X9 Tryz.underlying29 rfl (by kernel_rfl)) rfl ⟨⟨4, none, 0, 0, ta, ts.length, tc, 0, false, false, none, 0, 0, false, false, none, 0, 0⟩, rfl, R9, B9⟩
theorem pE (a : Option Addr) (c1 : Nat) (K : Nat → SV) (l : List UInt8) (w : World) (hr : RowAt w a 2 c1 K) (h0 : Rd w (K 0) (at1 preL)) (h1 : Rd w (K 1) (at1 l)) (hl : l.length ≤ 5000) :
  Calls Tryz.prog 100 #[.slice a 2 c1] w (TagP (.mk 5 l [] noR) w) := by
 obtain ⟨b, o, rfl, a8⟩ := hr.range (i := 0) (by omega)
 have HR := I5 hr
 rw [show o + 0 * 5 = o by omega] at a8
 have H0 := I5 h0
 have ie := hr.1
 have ea := hr.2.1
 unfold maxLen at ea
 clear hr h0
 obtain ⟨k0, cL⟩ : ∃ k0, k0 = K 0 := ⟨_, rfl⟩
 rw [← cL] at a8 H0
 clear cL
 obtain ⟨kl, kh, sX, sR, sU, sW, sQ, sT, sV, sP, sS⟩ := k0
 replace a8 : w.rangeAt b o [.bool kl, .bool kh, .slice sX sR sU, .slice sW sQ sT, .slice sV sP sS] := a8
 have lq : b < w.heap.size := cA (a8 0 _ rfl)
 have ij := HR.out.range (i := 1) (by omega)
 obtain ⟨b2, o2, e2, ij⟩ := ij
 cases e2
 have H1 := I5 h1
 clear h1
 obtain ⟨k1, oZ⟩ : ∃ k1, k1 = K 1 := ⟨_, rfl⟩
 rw [← oZ] at ij H1
 clear oZ
 obtain ⟨fl, fh, qm, qh, qk, ql, qg, qj, AV, AT, AU⟩ := k1
 replace ij : w.rangeAt b (o + 5) [.bool fl, .bool fh, .slice qm qh qk, .slice ql qg qj, .slice AV AT AU] := ij
 let x0 := (w.alloc (.cells #[.int .u8 0, .slice none 0 0, .slice none 0 0, .int .u8 0, .bool false, .bool false, .slice none 0 0, .bool false, .bool false, .slice none 0 0] 29))
 have B : Below w.heap.size w x0 := (Below.refl _ _).alloc (Nat.le_refl _) _
 have Y : Hid (Box x0 w.heap.size 29 #[.int .u8 0, .slice none 0 0, .slice none 0 0, .int .u8 0, .bool false, .bool false, .slice none 0 0, .bool false, .bool false, .slice none 0 0]) := I5 (Box.new _ _ _)
 go_enter Tryz.func100, Tryz.ntmps100
 go_upto_region 1 with fail
 change Code.wp _ _ _ _ x0
 clear_value x0
 have HL := I5 (jg lq a8 B)
 clear a8
 go_wp2_with (refine ai rfl 32 _ rfl b _ rfl _ _ HL.out Tryz.underlying32 rfl (by kernel_rfl) ?_)
 refine (iR preL [] ⟨kl, kh, sX, sR, sU, sW, sQ, sT, sV, sP, sS⟩ x0 (H0.out.after B) (by decide)).mono ?_
 rintro e x1 ⟨v9, rfl, o9, bx1⟩
 replace Y := I5 (Y.out.after bx1)
 replace B := B.trans (bx1.mono B.size)
 clear bx1
 obtain ⟨p9, q9, rfl, hsl⟩ := o9.sl
 have HC := bv hsl
 clear o9 hsl HL
 go_wp2_with fail
 refine (lF x1).mono ?_
 rintro e z9 ⟨rfl, h0⟩
 obtain rfl := h0.symm
 clear h0
 have BK := I5 (jg lq ij B)
 go_wp2_with (refine ai rfl 32 _ rfl b _ rfl _ _ BK.out Tryz.underlying32 rfl (by kernel_rfl) ?_)
 refine (iR l [] ⟨fl, fh, qm, qh, qk, ql, qg, qj, AV, AT, AU⟩ _ (H1.out.after B) hl).mono ?_
 rintro e y1 ⟨v8, rfl, o8, cd⟩
 have uk := Y.out.lt
 obtain ⟨p8, m8, q8, rfl, wB, wF⟩ := OwnB.parts o8
 have Fg := I5 wB
 have Dk := I5 wF
 clear o8 wB wF HC BK
 replace Y := I5 (Y.out.after cd)
 replace B := B.trans (cd.mono B.size)
 clear cd
 go_wp2_with (refine ac (cells := #[.int .u8 5, .slice p8 m8 q8, .slice none 0 0, .int .u8 0, .bool false, .bool false, .slice none 0 0, .bool false, .bool false, .slice none 0 0]) rfl 29 _ _ rfl Y.out (by rfl) (by rfl) rfl (by kernel_rfl) (by simp [Value.oneCell']) ?_; intro u9 X9 st9)
 have B9 := st9.below w.heap.size w (by omega) B
 have R9 : RdT (fun b => w.heap.size ≤ b) u9 ⟨5, p8, m8, q8, none, 0, 0, 0, false, false, none, 0, 0, false, false, none, 0, 0⟩ (.mk 5 l [] noR) := iB _ u9 5 (by omega) p8 m8 q8 l (Fg.out.keep (Dk.out.imp id fun h b o s e => st9.other b (by have h1 : x1.heap.size ≤ b := h b o s e; omega))) (Dk.out.mono (fun b hb => by have h1 : x1.heap.size ≤ b := hb; show w.heap.size ≤ b; omega))
 exact bodyPost_ret (v := .agg #[.int .u8 5, .slice p8 m8 q8, .slice none 0 0, .int .u8 0, .bool false, .bool false, .slice none 0 0, .bool false, .bool false, .slice none 0 0]) (ae rfl _ _ (by rfl) X9 Tryz.underlying29 rfl (by kernel_rfl)) rfl ⟨⟨5, p8, m8, q8, none, 0, 0, 0, false, false, none, 0, 0, false, false, none, 0, 0⟩, rfl, R9, B9⟩
theorem gO (l : List UInt8) (hl : l.length ≤ 5000) : GetOk (at1 l) (.mk 2 l [] noR) := by
 intro v w hr
 have gU := I5 hr
 obtain ⟨eQ, fK, -⟩ := hr.parts
 obtain ⟨vl, vh, aw, ap, av, aA, aS, az, cM, dO, cz⟩ := v
 replace eQ : vl = false := eQ
 replace fK : vh = false := fK
 subst eQ fK
 clear hr
 let x0 := ((w.alloc (.cells #[.bool false, .bool false, .slice aw ap av, .slice aA aS az, .slice cM dO cz] 32)).alloc (.cells #[.int .u8 0, .slice none 0 0, .slice none 0 0, .int .u8 0, .bool false, .bool false, .slice none 0 0, .bool false, .bool false, .slice none 0 0] 29))
 have B : Below w.heap.size w x0 := ((Below.refl _ _).alloc (Nat.le_refl _) _).alloc (by simp [x0, x0]) _
 have X : Hid (Box x0 w.heap.size 32 #[.bool false, .bool false, .slice aw ap av, .slice aA aS az, .slice cM dO cz]) := I5 ((Box.new _ _ _).alloc _)
 have Y : Hid (Box x0 (w.heap.size + 1) 29 #[.int .u8 0, .slice none 0 0, .slice none 0 0, .int .u8 0, .bool false, .bool false, .slice none 0 0, .bool false, .bool false, .slice none 0 0]) := I5 (by
  have := Box.new (w.alloc (.cells #[.bool false, .bool false, .slice aw ap av, .slice aA aS az, .slice cM dO cz] 32)) 29 #[.int .u8 0, .slice none 0 0, .slice none 0 0, .int .u8 0, .bool false, .bool false, .slice none 0 0, .bool false, .bool false, .slice none 0 0]
  simpa [x0] using this)
 unfold SV.val
 show Calls _ _ #[.agg #[.bool false, .bool false, .slice aw ap av, .slice aA aS az, .slice cM dO cz]] _ _
 go_enter Tryz.func66, Tryz.ntmps66
 go_upto_region 1 with fail
 change Code.wp _ _ _ _ x0
 clear_value x0
 go_wp2_with (refine ab rfl 32 _ rfl X.out (by rfl) Tryz.underlying32 rfl (by kernel_rfl) ?_)
 refine (gH (at1 l) ⟨false, false, aw, ap, av, aA, aS, az, cM, dO, cz⟩ x0 (gU.out.after B)).mono ?_
 rintro e x1 ⟨rfl, bx1⟩
 replace X := I5 (X.out.after bx1)
 replace Y := I5 (Y.out.after bx1)
 replace B := B.trans (bx1.mono B.size)
 clear bx1
 rw [show starS (at1 l) = false from rfl]
 have c0 := X.out.cell 0 rfl
 go_wp2_with (refine ab rfl 32 _ rfl X.out (by rfl) Tryz.underlying32 rfl (by kernel_rfl) ?_)
 refine (iR l [] ⟨false, false, aw, ap, av, aA, aS, az, cM, dO, cz⟩ x1 (gU.out.after B) hl).mono ?_
 rintro e y1 ⟨v8, rfl, o8, cd⟩
 have uk := Y.out.lt
 obtain ⟨p8, m8, q8, rfl, wB, wF⟩ := OwnB.parts o8
 have Fg := I5 wB
 have Dk := I5 wF
 clear o8 wB wF c0
 replace X := I5 (X.out.after cd)
 replace Y := I5 (Y.out.after cd)
 replace B := B.trans (cd.mono B.size)
 clear cd
 go_wp2_with (refine ac (cells := #[.int .u8 2, .slice p8 m8 q8, .slice none 0 0, .int .u8 0, .bool false, .bool false, .slice none 0 0, .bool false, .bool false, .slice none 0 0]) rfl 29 _ _ rfl Y.out (by rfl) (by rfl) rfl (by kernel_rfl) (by simp [Value.oneCell']) ?_; intro u9 X9 st9)
 have B9 := st9.below w.heap.size w (by omega) B
 have R9 : RdT (fun b => w.heap.size ≤ b) u9 ⟨2, p8, m8, q8, none, 0, 0, 0, false, false, none, 0, 0, false, false, none, 0, 0⟩ (.mk 2 l [] noR) := iB _ u9 2 (by omega) p8 m8 q8 l (Fg.out.keep (Dk.out.imp id fun h b o s e => st9.other b (by have h1 : x1.heap.size ≤ b := h b o s e; omega))) (Dk.out.mono (fun b hb => by have h1 : x1.heap.size ≤ b := hb; show w.heap.size ≤ b; omega))
 exact bodyPost_ret (v := .agg #[.int .u8 2, .slice p8 m8 q8, .slice none 0 0, .int .u8 0, .bool false, .bool false, .slice none 0 0, .bool false, .bool false, .slice none 0 0]) (ae rfl _ _ (by rfl) X9 Tryz.underlying29 rfl (by kernel_rfl)) rfl ⟨⟨2, p8, m8, q8, none, 0, 0, 0, false, false, none, 0, 0, false, false, none, 0, 0⟩, rfl, R9, B9⟩
theorem mu (ss : List Sx) (ts : List Tg) (gw : starS (li ss) = false) (dh : ss.length = ts.length) (hn : ss.length ≤ 1000) (hg : ∀ i (h : i < ss.length) (h2 : i < ts.length), GetOk ss[i] ts[i]) : GetOk (li ss) (.mk 3 [] ts noR) := by
 have BJ := I5 dh
 clear dh
 intro v w hr
 have gU := I5 hr
 obtain ⟨eQ, -, -, -, hn, ie, ea, K, ah, hk⟩ := hr.parts
 obtain ⟨vl, vh, aw, ap, av, aA, aS, az, cM, dO, cz⟩ := v
 replace eQ : vl = true := eQ
 subst eQ
 clear hr
 replace hn : dO = ss.length := hn
 subst hn
 replace ea : cz ≤ maxLen := ea
 unfold maxLen at ea
 have HR := I5 (show RowAt w cM ss.length cz K from ah)
 have HK : Hid (∀ i (hi : i < ss.length), Rd w (K i) ss[i]) := I5 hk
 clear ah hk
 let x0 := ((w.alloc (.cells #[.bool true, .bool vh, .slice aw ap av, .slice aA aS az, .slice cM ss.length cz] 32)).alloc (.cells #[.int .u8 0, .slice none 0 0, .slice none 0 0, .int .u8 0, .bool false, .bool false, .slice none 0 0, .bool false, .bool false, .slice none 0 0] 29))
 have B : Below w.heap.size w x0 := ((Below.refl _ _).alloc (Nat.le_refl _) _).alloc (by simp [x0, x0]) _
 have X : Hid (Box x0 w.heap.size 32 #[.bool true, .bool vh, .slice aw ap av, .slice aA aS az, .slice cM ss.length cz]) := I5 ((Box.new _ _ _).alloc _)
 have Y : Hid (Box x0 (w.heap.size + 1) 29 #[.int .u8 0, .slice none 0 0, .slice none 0 0, .int .u8 0, .bool false, .bool false, .slice none 0 0, .bool false, .bool false, .slice none 0 0]) := I5 (by
  have := Box.new (w.alloc (.cells #[.bool true, .bool vh, .slice aw ap av, .slice aA aS az, .slice cM ss.length cz] 32)) 29 #[.int .u8 0, .slice none 0 0, .slice none 0 0, .int .u8 0, .bool false, .bool false, .slice none 0 0, .bool false, .bool false, .slice none 0 0]
  simpa [x0] using this)
 unfold SV.val
 show Calls _ _ #[.agg #[.bool true, .bool vh, .slice aw ap av, .slice aA aS az, .slice cM ss.length cz]] _ _
 go_enter Tryz.func66, Tryz.ntmps66
 go_upto_region 1 with fail
 change Code.wp _ _ _ _ x0
 clear_value x0
 go_wp2_with (refine ab rfl 32 _ rfl X.out (by rfl) Tryz.underlying32 rfl (by kernel_rfl) ?_)
 have CS := gH (li ss) ⟨true, vh, aw, ap, av, aA, aS, az, cM, ss.length, cz⟩ x0 (gU.out.after B)
 rw [gw] at CS
 replace CS := I5 CS
 refine (CS.out).mono ?_
 rintro e x1 ⟨rfl, bx1⟩
 replace X := I5 (X.out.after bx1)
 replace Y := I5 (Y.out.after bx1)
 replace B := B.trans (bx1.mono B.size)
 clear bx1
 clear CS
 have c0 := X.out.cell 0 rfl
 have c4 := X.out.cell 4 rfl
 go_wp2_with fail
 refine (pB cM cz K ss ts x1 (HR.out.after B) (fun i hi => (HK.out i hi).after B) BJ.out hn hg).mono ?_
 rintro e y1 ⟨tv, TK, rfl, ho, hm, cd⟩
 have uk := Y.out.lt
 obtain ⟨ta, tc, rfl, ah, jb⟩ := ho.rowT
 have Fk := I5 ah
 have Dj := I5 jb
 have HM := I5 hm
 clear ho hm ah jb c0 c4
 replace X := I5 (X.out.after cd)
 replace Y := I5 (Y.out.after cd)
 replace B := B.trans (cd.mono B.size)
 clear cd
 go_wp2_with (refine ac (cells := #[.int .u8 3, .slice none 0 0, .slice ta ts.length tc, .int .u8 0, .bool false, .bool false, .slice none 0 0, .bool false, .bool false, .slice none 0 0]) rfl 29 _ _ rfl Y.out (by rfl) (by rfl) rfl (by kernel_rfl) (by simp [Value.oneCell']) ?_; intro u9 X9 st9)
 have B9 := st9.below w.heap.size w (by omega) B
 have R9 : RdT (fun b => w.heap.size ≤ b) u9 ⟨3, none, 0, 0, ta, ts.length, tc, 0, false, false, none, 0, 0, false, false, none, 0, 0⟩ (.mk 3 [] ts noR) := hG _ u9 3 (by omega) ta ts.length tc TK ts (Fk.out.keep (Dj.out.imp id fun h b o s e => st9.other b (by have h1 : x1.heap.size ≤ b := h b o s e; omega))) (Dj.out.mono (fun b hb => by have h1 : x1.heap.size ≤ b := hb; show w.heap.size ≤ b; omega)) rfl (fun i hi => ((HM.out i hi).keep (fun b hb => st9.other b (by have h1 : x1.heap.size ≤ b := hb.1; omega))).mono (fun b hb => by have h1 : x1.heap.size ≤ b := hb.1; show w.heap.size ≤ b; omega))
 exact bodyPost_ret (v := .agg #[.int .u8 3, .slice none 0 0, .slice ta ts.length tc, .int .u8 0, .bool false, .bool false, .slice none 0 0, .bool false, .bool false, .slice none 0 0]) (ae rfl _ _ (by rfl) X9 Tryz.underlying29 rfl (by kernel_rfl)) rfl ⟨⟨3, none, 0, 0, ta, ts.length, tc, 0, false, false, none, 0, 0, false, false, none, 0, 0⟩, rfl, R9, B9⟩
theorem mt (s0 : Sx) (ss : List Sx) (t9 : Tg) (hs : ∀ (a : Option Addr) (c : Nat) (K : Nat → SV) (w : World), RowAt w a (s0 :: ss).length c K → (∀ i (hi : i < (s0 :: ss).length), Rd w (K i) (s0 :: ss)[i]) → Calls Tryz.prog 100 #[.slice a (s0 :: ss).length c] w (TagP t9 w)) : GetOk (li (at1 starL :: s0 :: ss)) t9 := by
 intro v w hr
 have gU := I5 hr
 obtain ⟨eQ, -, -, -, hn, ie, ea, K, ah, hk⟩ := hr.parts
 obtain ⟨vl, vh, aw, ap, av, aA, aS, az, cM, dO, cz⟩ := v
 replace eQ : vl = true := eQ
 subst eQ
 clear hr
 replace hn : dO = (at1 starL :: s0 :: ss).length := hn
 obtain ⟨n, gk⟩ : ∃ n, n = (s0 :: ss).length := ⟨_, rfl⟩
 have Du : dO = n + 1 := by rw [hn, gk]; rfl
 subst Du
 replace ea : cz ≤ maxLen := ea
 replace ie : n + 1 ≤ cz := ie
 unfold maxLen at ea
 have Iz : 0 < n := by rw [gk]; simp
 have HR := I5 (show RowAt w cM (n + 1) cz K from ah)
 have HK : Hid (∀ i (hi : i < (at1 starL :: s0 :: ss).length), Rd w (K i) (at1 starL :: s0 :: ss)[i]) := I5 hk
 obtain ⟨b, o, rfl, -⟩ := HR.out.range (i := 0) (by omega)
 obtain ⟨c, rfl⟩ : ∃ c2, cz = c2 + 1 := ⟨cz - 1, by omega⟩
 have HN := I5 gk
 have na : (1 : Int) < (c : Int) + 1 := by omega
 have Gq : (1 : Int) ≤ (n : Int) + 1 := by omega
 clear ah hk hn gk
 let x0 := ((w.alloc (.cells #[.bool true, .bool vh, .slice aw ap av, .slice aA aS az, .slice (some ⟨b, o, none⟩) (n + 1) (c + 1)] 32)).alloc (.cells #[.int .u8 0, .slice none 0 0, .slice none 0 0, .int .u8 0, .bool false, .bool false, .slice none 0 0, .bool false, .bool false, .slice none 0 0] 29))
 have B : Below w.heap.size w x0 := ((Below.refl _ _).alloc (Nat.le_refl _) _).alloc (by simp [x0, x0]) _
 have X : Hid (Box x0 w.heap.size 32 #[.bool true, .bool vh, .slice aw ap av, .slice aA aS az, .slice (some ⟨b, o, none⟩) (n + 1) (c + 1)]) := I5 ((Box.new _ _ _).alloc _)
 have Y : Hid (Box x0 (w.heap.size + 1) 29 #[.int .u8 0, .slice none 0 0, .slice none 0 0, .int .u8 0, .bool false, .bool false, .slice none 0 0, .bool false, .bool false, .slice none 0 0]) := I5 (by
  have := Box.new (w.alloc (.cells #[.bool true, .bool vh, .slice aw ap av, .slice aA aS az, .slice (some ⟨b, o, none⟩) (n + 1) (c + 1)] 32)) 29 #[.int .u8 0, .slice none 0 0, .slice none 0 0, .int .u8 0, .bool false, .bool false, .slice none 0 0, .bool false, .bool false, .slice none 0 0]
  simpa [x0] using this)
 unfold SV.val
 show Calls _ _ #[.agg #[.bool true, .bool vh, .slice aw ap av, .slice aA aS az, .slice (some ⟨b, o, none⟩) (n + 1) (c + 1)]] _ _
 go_enter Tryz.func66, Tryz.ntmps66
 go_upto_region 1 with fail
 change Code.wp _ _ _ _ x0
 clear_value x0
 go_wp2_with (refine ab rfl 32 _ rfl X.out (by rfl) Tryz.underlying32 rfl (by kernel_rfl) ?_)
 have CS := gH (li (at1 starL :: s0 :: ss)) ⟨true, vh, aw, ap, av, aA, aS, az, some ⟨b, o, none⟩, n + 1, c + 1⟩ x0 (gU.out.after B)
 rw [show starS (li (at1 starL :: s0 :: ss)) = true from (Sx.same_refl (at1 starL))] at CS
 replace CS := I5 CS
 refine (CS.out).mono ?_
 rintro e x1 ⟨rfl, bx1⟩
 replace X := I5 (X.out.after bx1)
 replace Y := I5 (Y.out.after bx1)
 replace B := B.trans (bx1.mono B.size)
 clear bx1
 clear CS
 have c4 := X.out.cell 4 rfl
 go_wp2_with fail
 have CR := hs (some ⟨b, o + 5, none⟩) c (fun i => K (i + 1)) x1 (by rw [← HN.out]; exact (HR.out.after B).tail) (fun i hi => (HK.out (i + 1) (by simpa using hi)).after B)
 rw [← HN.out] at CR
 refine CR.mono ?_
 rintro e y1 ⟨⟨cS, bR, bN, bP, bQ, bL, bO, to, cP, cN, cR, cO, cQ, cW, cT, cY, cU, cX⟩, rfl, rt, cd⟩
 have uk := Y.out.lt
 have RT := I5 rt
 simp only [TV.val]
 clear rt c4 CR
 replace X := I5 (X.out.after cd)
 replace Y := I5 (Y.out.after cd)
 replace B := B.trans (cd.mono B.size)
 clear cd
 go_wp2_with (refine ac (cells := #[.int .u8 cS, .slice bR bN bP, .slice bQ bL bO, .int .u8 to, .bool cP, .bool cN, .slice cR cO cQ, .bool cW, .bool cT, .slice cY cU cX]) rfl 29 _ _ rfl Y.out (by rfl) (by rfl) rfl (by kernel_rfl) (by simp [Value.oneCell']) ?_; intro u9 X9 st9)
 have B9 := st9.below w.heap.size w (by omega) B
 have R9 : RdT (fun b => w.heap.size ≤ b) u9 ⟨cS, bR, bN, bP, bQ, bL, bO, to, cP, cN, cR, cO, cQ, cW, cT, cY, cU, cX⟩ (t9) := (RT.out.keep (fun b hb => st9.other b (by have h1 : x1.heap.size ≤ b := hb; omega))).mono (fun b hb => by have h1 : x1.heap.size ≤ b := hb; show w.heap.size ≤ b; omega)
 exact bodyPost_ret (v := .agg #[.int .u8 cS, .slice bR bN bP, .slice bQ bL bO, .int .u8 to, .bool cP, .bool cN, .slice cR cO cQ, .bool cW, .bool cT, .slice cY cU cX]) (ae rfl _ _ (by rfl) X9 Tryz.underlying29 rfl (by kernel_rfl)) rfl ⟨⟨cS, bR, bN, bP, bQ, bL, bO, to, cP, cN, cR, cO, cQ, cW, cT, cY, cU, cX⟩, rfl, R9, B9⟩
theorem uD (l : List UInt8) (hl : l.length ≤ 5000) : GetOk (li [at1 starL, at1 preL, at1 l]) (.mk 5 l [] noR) :=
 mt _ _ _ fun a c K w hr hk => pE a c K l w hr (hk 0 (by show 0 < 2; omega)) (hk 1 (by show 1 < 2; omega)) hl
theorem uC (ss : List Sx) (ts : List Tg) (dh : ss.length = ts.length) (hn : ss.length ≤ 1000) (F1 : 0 < ss.length) (hg : ∀ i (h : i < ss.length) (h2 : i < ts.length), GetOk ss[i] ts[i]) : GetOk (li (at1 starL :: at1 setL :: ss)) (.mk 4 [] ts noR) :=
 mt _ _ _ fun a c K w hr hk => pD a c K ss ts w hr (hk 0 (by simp)) (fun i hi => hk (i + 1) (by simpa using hi)) dh hn F1 hg
theorem oe (V E : Nat) (w : World) :
  CallsD Tryz.prog 64 #[.pointer (some ⟨V, 0, none⟩), .pointer (some ⟨E, 0, none⟩)] .returning w fun e u' w' => e = .returned (.tuple #[]) ∧ u' = .returning ∧ w' = w := by
 refine callsD_of_wpS Tryz.func64 rfl fun c₀ cs hu => ?_
 apply wpS_seq
 apply wpS_region
 simp [wpOpsS, go_sem, recoverD, hu, Tryz.ntmps64, Exit.thenS]
 refine wpS_of_wp ?_
 go_wp2_with fail
 cases c₀
 simp_all [bodyPostS, results, Tryz.results64]
def GotT (t : Tg) (w : World) (e : Ending) (w' : World) : Prop := ∃ u : TV, e = .returned (.tuple #[u.val, .int .i64 0]) ∧ RdT (fun b => w.heap.size ≤ b) w' u t ∧ Below w.heap.size w w'
theorem wL (s : Sx) (t9 : Tg) (v : SV) (w : World) (hr : Rd w v s) (hg : GetOk s t9) (hm : s.may = true) (hw : s.wide 0 = false) (ht : Tab w) :
  Calls Tryz.prog 35 #[v.val] w (GotT t9 w) := by
 have gU := I5 hr
 have HT := I5 ht
 have HG := I5 hg
 have HW := I5 hw
 have HM := I5 hm
 clear hr ht hg hw hm
 have Dv : ∀ (fn : Fn) (first cap : Array Value) (w : World), (Instr.makeFunc fn first cap).run Tryz.prog w = .ok (.func fn first cap) w := fun _ _ _ _ => rfl
 obtain ⟨vl, vh, aw, ap, av, aA, aS, az, cM, dO, cz⟩ := v
 let x0 := (((w.alloc (.cells #[.bool vl, .bool vh, .slice aw ap av, .slice aA aS az, .slice cM dO cz] 32)).alloc (.cells #[.int .u8 0, .slice none 0 0, .slice none 0 0, .int .u8 0, .bool false, .bool false, .slice none 0 0, .bool false, .bool false, .slice none 0 0] 29)).alloc (.cells #[.int .i64 0] 39))
 have B : Below w.heap.size w x0 := (((Below.refl _ _).alloc (Nat.le_refl _) _).alloc (by simp [x0, x0]) _).alloc (by simp [x0, x0]; omega) _
 have X : Hid (Box x0 w.heap.size 32 #[.bool vl, .bool vh, .slice aw ap av, .slice aA aS az, .slice cM dO cz]) := I5 (((Box.new _ _ _).alloc _).alloc _)
 have Y : Hid (Box x0 (w.heap.size + 1) 29 #[.int .u8 0, .slice none 0 0, .slice none 0 0, .int .u8 0, .bool false, .bool false, .slice none 0 0, .bool false, .bool false, .slice none 0 0]) := I5 (by
  have := (Box.new (w.alloc (.cells #[.bool vl, .bool vh, .slice aw ap av, .slice aA aS az, .slice cM dO cz] 32)) 29 #[.int .u8 0, .slice none 0 0, .slice none 0 0, .int .u8 0, .bool false, .bool false, .slice none 0 0, .bool false, .bool false, .slice none 0 0]).alloc (.cells #[.int .i64 0] 39)
  simpa [x0] using this)
 have Z : Hid (Box x0 (w.heap.size + 2) 39 #[.int .i64 0]) := I5 (by
  have := Box.new ((w.alloc (.cells #[.bool vl, .bool vh, .slice aw ap av, .slice aA aS az, .slice cM dO cz] 32)).alloc (.cells #[.int .u8 0, .slice none 0 0, .slice none 0 0, .int .u8 0, .bool false, .bool false, .slice none 0 0, .bool false, .bool false, .slice none 0 0] 29)) 39 #[.int .i64 0]
  simpa [x0] using this)
 unfold SV.val
 show Calls _ _ #[.agg #[.bool vl, .bool vh, .slice aw ap av, .slice aA aS az, .slice cM dO cz]] _ _
 go_enter_defers Tryz.func35, Tryz.ntmps35
 go_upto_region 1 with fail
 change Code.wp _ _ _ _ x0
 clear_value x0
 go_wp2_with (refine ab rfl 32 _ rfl X.out (by rfl) Tryz.underlying32 rfl (by kernel_rfl) ?_)
 have CM := lw s ⟨vl, vh, aw, ap, av, aA, aS, az, cM, dO, cz⟩ x0 (gU.out.after B) 0 HW.out (HT.out.after B)
 rw [HM.out] at CM
 replace CM := I5 CM
 refine CM.out.mono ?_
 rintro e x1 ⟨rfl, bx1⟩
 clear CM
 replace X := I5 (X.out.after bx1)
 replace Y := I5 (Y.out.after bx1)
 replace Z := I5 (Z.out.after bx1)
 replace B := B.trans (bx1.mono B.size)
 clear bx1
 go_wp2_with fail
 refine (lF x1).mono ?_
 rintro e z9 ⟨rfl, h0⟩
 obtain rfl := h0.symm
 clear h0
 go_wp2_with (refine ab rfl 32 _ rfl X.out (by rfl) Tryz.underlying32 rfl (by kernel_rfl) ?_)
 refine (HG.out ⟨vl, vh, aw, ap, av, aA, aS, az, cM, dO, cz⟩ x1 (gU.out.after B)).mono ?_
 rintro e y1 ⟨⟨cS, bR, bN, bP, bQ, bL, bO, to, cP, cN, cR, cO, cQ, cW, cT, cY, cU, cX⟩, rfl, rt, cd⟩
 have RT := I5 rt
 simp only [TV.val]
 clear rt
 have uk := Y.out.lt
 have kQ := Z.out.lt
 replace X := I5 (X.out.after cd)
 replace Y := I5 (Y.out.after cd)
 replace Z := I5 (Z.out.after cd)
 replace B := B.trans (cd.mono B.size)
 clear cd
 go_wp2_with (refine ac (cells := #[.int .u8 cS, .slice bR bN bP, .slice bQ bL bO, .int .u8 to, .bool cP, .bool cN, .slice cR cO cQ, .bool cW, .bool cT, .slice cY cU cX]) rfl 29 _ _ rfl Y.out (by rfl) (by rfl) rfl (by kernel_rfl) (by simp [Value.oneCell']) ?_; intro u9 X9 st9; have e9 := (st9.box Z.out (by omega)).cell 0 rfl; have fe9 := (st9.box Z.out (by omega)).frozen 0)
 have b9 : Below w.heap.size w (u9.setCell ⟨w.heap.size + 1 + 1, 0, none⟩ (.int .i64 0)) := (st9.below w.heap.size w (by omega) B).setCell (p := ⟨w.heap.size + 1 + 1, 0, none⟩) (by show w.heap.size ≤ w.heap.size + 1 + 1; omega) _
 have V9 := X9.far ⟨w.heap.size + 1 + 1, 0, none⟩ (.int .i64 0) (by show w.heap.size + 1 ≠ w.heap.size + 1 + 1; omega)
 have E9 : Box (u9.setCell ⟨w.heap.size + 1 + 1, 0, none⟩ (.int .i64 0)) (w.heap.size + 2) 39 #[.int .i64 0] := (st9.box Z.out (by omega)).set 0 (.int .i64 0)
 have R9 : RdT (fun b => w.heap.size ≤ b) (u9.setCell ⟨w.heap.size + 1 + 1, 0, none⟩ (.int .i64 0)) ⟨cS, bR, bN, bP, bQ, bL, bO, to, cP, cN, cR, cO, cQ, cW, cT, cY, cU, cX⟩ t9 := (RT.out.keep (fun b hb => (Below.heap_setCell _ _ _ _ (by show b ≠ w.heap.size + 1 + 1; have h1 : x1.heap.size ≤ b := hb; omega)).trans (st9.other b (by have h1 : x1.heap.size ≤ b := hb; omega)))).mono (fun b hb => by have h1 : x1.heap.size ≤ b := hb; show w.heap.size ≤ b; omega)
 generalize (u9.setCell ⟨w.heap.size + 1 + 1, 0, none⟩ (.int .i64 0)) = u8 at *
 have cc0 : u8.cell? ⟨w.heap.size + 1, 0, none⟩ = some (.int .u8 cS) := V9.cell 0 rfl
 have xr : u8.cell? ⟨w.heap.size + 1, 1, none⟩ = some (.slice bR bN bP) := V9.cell 1 rfl
 have xq : u8.cell? ⟨w.heap.size + 1, 2, none⟩ = some (.slice bQ bL bO) := V9.cell 2 rfl
 have xp : u8.cell? ⟨w.heap.size + 1, 3, none⟩ = some (.int .u8 to) := V9.cell 3 rfl
 have cc4 : u8.cell? ⟨w.heap.size + 1, 4, none⟩ = some (.bool cP) := V9.cell 4 rfl
 have cc5 : u8.cell? ⟨w.heap.size + 1, 5, none⟩ = some (.bool cN) := V9.cell 5 rfl
 have cc6 : u8.cell? ⟨w.heap.size + 1, 6, none⟩ = some (.slice cR cO cQ) := V9.cell 6 rfl
 have cc7 : u8.cell? ⟨w.heap.size + 1, 7, none⟩ = some (.bool cW) := V9.cell 7 rfl
 have cc8 : u8.cell? ⟨w.heap.size + 1, 8, none⟩ = some (.bool cT) := V9.cell 8 rfl
 have cc9 : u8.cell? ⟨w.heap.size + 1, 9, none⟩ = some (.slice cY cU cX) := V9.cell 9 rfl
 have ce : u8.cell? ⟨w.heap.size + 1 + 1, 0, none⟩ = some (.int .i64 0) := E9.cell 0 rfl
 refine leaves_cons (f := 64) (args := #[.pointer (some ⟨w.heap.size + 1, 0, none⟩), .pointer (some ⟨w.heap.size + 1 + 1, 0, none⟩)]) (by simp) (by simp [go_sem]) ?_
 refine (oe _ _ _).mono ?_
 rintro e u' w'' ⟨rfl, rfl, rfl⟩
 simp [Leaves, settle, results, Tryz.results35, go_sem, cc0, xr, xq, xp, cc4, cc5, cc6, cc7, cc8, cc9, ce]
 exact ⟨⟨cS, bR, bN, bP, bQ, bL, bO, to, cP, cN, cR, cO, cQ, cW, cT, cY, cU, cX⟩, rfl, R9, b9⟩
theorem dX {l : List UInt8} {p lv n q : Nat} {r : RV} (hq : skipN l p = q) (h1 : q < l.length) (h2 : begB (l.getD q 0) = true) (h3 : l.getD q 0 ≠ 40) (h4 : l.getD q 0 ≠ 91) (h5 : n + 1 ≤ 512) (hr : nAtom l q (n + 1) = r) : Nt l none p lv n r := by
 subst hq hr
 exact .atom h1 h2 h3 h4 h5
theorem jN {l : List UInt8} {p lv n q m : Nat} {r : RV} (hq : skipN l p = q) (h1 : q < l.length) (h2 : l.getD q 0 = 40) (hm : n + 1 = m) (h3 : m ≤ 512) (h4 : lv ≤ 16) (hr : Nt l (some []) (q + 1) lv m r) : Nt l none p lv n r := by
 subst hq hm
 exact .list h1 h2 h3 h4 hr
theorem df {l : List UInt8} {p lv n q m p2 n2 : Nat} {acc : List Sx} {v : Sx} {r2 : RV} (hq : skipN l p = q) (h1 : q < l.length) (h2 : l.getD q 0 ≠ 41) (hm : lv + 1 = m) (h3 : Nt l none q m n ⟨v, p2, n2, 0⟩) (h4 : Nt l (some (acc ++ [v])) p2 lv n2 r2) : Nt l (some acc) p lv n r2 := by
 subst hq hm
 exact .more (r := ⟨v, p2, n2, 0⟩) h1 h2 h3 rfl h4
theorem iI {l : List UInt8} {p lv n q q1 : Nat} {acc : List Sx} {v : Sx} (hq : skipN l p = q) (h1 : q < l.length) (h2 : l.getD q 0 = 41) (nJ : q + 1 = q1) (hv : Sx.mk true false [] [] acc = v) : Nt l (some acc) p lv n ⟨v, q1, n, 0⟩ := by
 subst hq nJ hv
 exact .close h1 h2
def ftpL : List UInt8 := [102, 116, 112]
def abL : List UInt8 := [97, 98]
def awPL : List UInt8 := [40, 102, 116, 112, 32, 40, 42, 32, 112, 114, 101, 102, 105, 120, 32, 97, 41, 41]
def awPS : Sx := li [at1 ftpL, li [at1 starL, at1 preL, at1 [97]]]
theorem wj : Nt awPL none 0 1 0 ⟨awPS, 18, 6, 0⟩ := by
 refine jN (q := 0) (m := 1) (by decide +kernel) (by decide +kernel) (by decide +kernel) rfl (by decide) (by decide) ?_
 refine df (q := 1) (m := 2) (v := at1 ftpL) (p2 := 4) (n2 := 2) (by decide +kernel) (by decide +kernel) (by decide +kernel) rfl (by
  exact dX (q := 1) (by decide +kernel) (by decide +kernel) (by decide +kernel) (by decide +kernel) (by decide +kernel) (by decide) (by kernel_rfl)) ?_
 refine df (q := 5) (m := 2) (v := li [at1 starL, at1 preL, at1 [97]]) (p2 := 17) (n2 := 6) (by decide +kernel) (by decide +kernel) (by decide +kernel) rfl (by
  refine jN (q := 5) (m := 3) (by decide +kernel) (by decide +kernel) (by decide +kernel) rfl (by decide) (by decide) ?_
  refine df (q := 6) (m := 3) (v := at1 starL) (p2 := 7) (n2 := 4) (by decide +kernel) (by decide +kernel) (by decide +kernel) rfl (by
   exact dX (q := 6) (by decide +kernel) (by decide +kernel) (by decide +kernel) (by decide +kernel) (by decide +kernel) (by decide) (by kernel_rfl)) ?_
  refine df (q := 8) (m := 3) (v := at1 preL) (p2 := 14) (n2 := 5) (by decide +kernel) (by decide +kernel) (by decide +kernel) rfl (by
   exact dX (q := 8) (by decide +kernel) (by decide +kernel) (by decide +kernel) (by decide +kernel) (by decide +kernel) (by decide) (by kernel_rfl)) ?_
  refine df (q := 15) (m := 3) (v := at1 [97]) (p2 := 16) (n2 := 6) (by decide +kernel) (by decide +kernel) (by decide +kernel) rfl (by
   exact dX (q := 15) (by decide +kernel) (by decide +kernel) (by decide +kernel) (by decide +kernel) (by decide +kernel) (by decide) (by kernel_rfl)) ?_
  exact iI (q := 16) (by decide +kernel) (by decide +kernel) (by decide +kernel) rfl rfl) ?_
 exact iI (q := 17) (by decide +kernel) (by decide +kernel) (by decide +kernel) rfl rfl
theorem zk : awPS.may = true := by decide +kernel
theorem xx : awPS.wide 0 = false := by decide +kernel
def awSL : List UInt8 := [40, 102, 116, 112, 32, 40, 42, 32, 115, 101, 116, 32, 97, 98, 32, 98, 41, 41]
def awSS : Sx := li [at1 ftpL, li [at1 starL, at1 setL, at1 abL, at1 [98]]]
theorem wi : Nt awSL none 0 1 0 ⟨awSS, 18, 7, 0⟩ := by
 refine jN (q := 0) (m := 1) (by decide +kernel) (by decide +kernel) (by decide +kernel) rfl (by decide) (by decide) ?_
 refine df (q := 1) (m := 2) (v := at1 ftpL) (p2 := 4) (n2 := 2) (by decide +kernel) (by decide +kernel) (by decide +kernel) rfl (by
  exact dX (q := 1) (by decide +kernel) (by decide +kernel) (by decide +kernel) (by decide +kernel) (by decide +kernel) (by decide) (by kernel_rfl)) ?_
 refine df (q := 5) (m := 2) (v := li [at1 starL, at1 setL, at1 abL, at1 [98]]) (p2 := 17) (n2 := 7) (by decide +kernel) (by decide +kernel) (by decide +kernel) rfl (by
  refine jN (q := 5) (m := 3) (by decide +kernel) (by decide +kernel) (by decide +kernel) rfl (by decide) (by decide) ?_
  refine df (q := 6) (m := 3) (v := at1 starL) (p2 := 7) (n2 := 4) (by decide +kernel) (by decide +kernel) (by decide +kernel) rfl (by
   exact dX (q := 6) (by decide +kernel) (by decide +kernel) (by decide +kernel) (by decide +kernel) (by decide +kernel) (by decide) (by kernel_rfl)) ?_
  refine df (q := 8) (m := 3) (v := at1 setL) (p2 := 11) (n2 := 5) (by decide +kernel) (by decide +kernel) (by decide +kernel) rfl (by
   exact dX (q := 8) (by decide +kernel) (by decide +kernel) (by decide +kernel) (by decide +kernel) (by decide +kernel) (by decide) (by kernel_rfl)) ?_
  refine df (q := 12) (m := 3) (v := at1 abL) (p2 := 14) (n2 := 6) (by decide +kernel) (by decide +kernel) (by decide +kernel) rfl (by
   exact dX (q := 12) (by decide +kernel) (by decide +kernel) (by decide +kernel) (by decide +kernel) (by decide +kernel) (by decide) (by kernel_rfl)) ?_
  refine df (q := 15) (m := 3) (v := at1 [98]) (p2 := 16) (n2 := 7) (by decide +kernel) (by decide +kernel) (by decide +kernel) rfl (by
   exact dX (q := 15) (by decide +kernel) (by decide +kernel) (by decide +kernel) (by decide +kernel) (by decide +kernel) (by decide) (by kernel_rfl)) ?_
  exact iI (q := 16) (by decide +kernel) (by decide +kernel) (by decide +kernel) rfl rfl) ?_
 exact iI (q := 17) (by decide +kernel) (by decide +kernel) (by decide +kernel) rfl rfl
theorem zi : awSS.may = true := by decide +kernel
theorem xw : awSS.wide 0 = false := by decide +kernel
def ftpT : Tg := .mk 2 ftpL [] noR
def awPT : Tg := .mk 3 [] [ftpT, .mk 5 [97] [] noR] noR
def awST : Tg := .mk 3 [] [ftpT, .mk 4 [] [.mk 2 abL [] noR, .mk 2 [98] [] noR] noR] noR
theorem zm : GetOk awPS awPT :=
 mu [at1 ftpL, li [at1 starL, at1 preL, at1 [97]]] [ftpT, .mk 5 [97] [] noR] (by decide +kernel) rfl (by decide) fun i h h2 => match i, h, h2 with
  | 0, _, _ => gO ftpL (by decide)
  | 1, _, _ => uD [97] (by decide)
theorem zj : GetOk awSS awST :=
 mu [at1 ftpL, li [at1 starL, at1 setL, at1 abL, at1 [98]]] [ftpT, .mk 4 [] [.mk 2 abL [] noR, .mk 2 [98] [] noR] noR] (by decide +kernel) rfl (by decide) fun i h h2 => match i, h, h2 with
  | 0, _, _ => gO ftpL (by decide)
  | 1, _, _ => uC [at1 abL, at1 [98]] [.mk 2 abL [] noR, .mk 2 [98] [] noR] rfl (by decide) (by decide) fun i h h2 => match i, h, h2 with
   | 0, _, _ => gO abL (by decide)
   | 1, _, _ => gO [98] (by decide)
end Go.Proofs.YtmmkaclmgnpplaaGreatDoor

import Derived.Test.YtmmkaclmgnpplaaGreatDoorMz36
set_option maxRecDepth 100000
set_option maxHeartbeats 64000000
set_option linter.unusedSimpArgs false
set_option linter.unusedVariables false
namespace Go.Proofs.YtmmkaclmgnpplaaGreatDoor
open Go.RowKit
theorem sZ {w : World} {B : Nat} {a : Option Addr} {n c : Nat} {l : List UInt8} (h : Sl w a n c l) (ho : Own B a) : InB (fun b => B ≤ b) a n :=
 h.2.2.2.2.imp id fun ⟨b, o, e, _⟩ b' o' s e' => by rw [e] at e'; cases e'; exact ho _ _ e
def leafT (t : Tg) : Prop := t.da.length ≤ 5000 ∧ t.r.lo.att.length ≤ 200 ∧ t.r.hi.att.length ≤ 200
theorem tW (ok : Nat → Prop) (t1 t2 : Tg) (v1 v2 : TV) (w : World) (ha : RdT ok w v1 t1) (hb : RdT ok w v2 t2) (Cm : leafT t1) (ut : leafT t2) :
  Calls Tryz.prog 87 #[v1.val, v2.val] w fun e w' => ∃ u : TV, e = .returned u.val ∧ RdT (fun b => (ok b ∧ b < w.heap.size) ∨ w.heap.size ≤ b) w' u (plainT t1 t2) ∧ Below w.heap.size w w' := by
 obtain ⟨kd1, ad, ks1, r1⟩ := t1
 obtain ⟨kd2, bd, ks2, r2⟩ := t2
 obtain ⟨FP, FO, FN⟩ := Cm
 obtain ⟨mb1, mb2, mb3⟩ := ut
 dsimp only [Tg.da, Tg.r] at FP FO FN mb1 mb2 mb3
 obtain ⟨⟨cH, ho, cK, dv, dx, dw, hk9a, ho9a⟩, hs1a, yA, yD, -, -, -, -⟩ := ha.parts
 obtain ⟨du, eJ, dV, eI, eU, dN, eT, ao, dZ, dY, eF, ek, eE, d8, d7, eH, em, eG⟩ := v1
 obtain ⟨ro, ⟨li, lo, all⟩, ⟨hi, mN, A6⟩⟩ := r1
 dsimp only [Tg.kd, Tg.r, Tg.da, Tg.ks] at cH ho cK dv dx dw hk9a ho9a hs1a yA yD
 subst cH ho cK dv dx dw
 have Sa := I5 hs1a
 have SLa := I5 yA
 have SHa := I5 yD
 obtain ⟨⟨cH, ho, cK, dv, dx, dw, hk9b, ho9b⟩, hs1b, yz, yC, -, -, -, -⟩ := hb.parts
 obtain ⟨dU, ej, fd, ft, fI, eS, fH, bo, eB, eA, fm, fe, fk, eD, eC, fq, ff, fp⟩ := v2
 obtain ⟨ro, ⟨li, lo, A3⟩, ⟨hi, mN, A4⟩⟩ := r2
 dsimp only [Tg.kd, Tg.r, Tg.da, Tg.ks] at cH ho cK dv dx dw hk9b ho9b hs1b yz yC
 subst cH ho cK dv dx dw
 have Sb := I5 hs1b
 have SLb := I5 yz
 have SHb := I5 yC
 have l1a : dV ≤ 6000 := by have := hs1a.1; omega
 have l2a : ek ≤ 6000 := by have := yA.1; (try dsimp only at *); omega
 have l3a : em ≤ 6000 := by have := yD.1; (try dsimp only at *); omega
 have l1b : fd ≤ 6000 := by have := hs1b.1; omega
 have l2b : fe ≤ 6000 := by have := yz.1; (try dsimp only at *); omega
 have l3b : ff ≤ 6000 := by have := yC.1; (try dsimp only at *); omega
 have RA := I5 ha
 have RB := I5 hb
 clear ha hb hs1a yA yD hs1b yz yC FP FO FN mb1 mb2 mb3
 obtain ⟨T1, ES⟩ : ∃ b, b = Tg.takes du ad ⟨ao, ⟨dZ, dY, all⟩, ⟨d8, d7, A6⟩⟩ bd := ⟨_, rfl⟩
 obtain ⟨T2, ER⟩ : ∃ b, b = Tg.takes dU bd ⟨bo, ⟨eB, eA, A3⟩, ⟨eD, eC, A4⟩⟩ ad := ⟨_, rfl⟩
 obtain ⟨P1, EV⟩ : ∃ b, b = prefB ad bd := ⟨_, rfl⟩
 obtain ⟨P2, EU⟩ : ∃ b, b = prefB bd ad := ⟨_, rfl⟩
 obtain ⟨K1, EY⟩ : ∃ b, b = okB ⟨ao, ⟨dZ, dY, all⟩, ⟨d8, d7, A6⟩⟩ ⟨bo, ⟨eB, eA, A3⟩, ⟨eD, eC, A4⟩⟩ := ⟨_, rfl⟩
 obtain ⟨M, hM⟩ : ∃ m, m = meetR ⟨ao, ⟨dZ, dY, all⟩, ⟨d8, d7, A6⟩⟩ ⟨bo, ⟨eB, eA, A3⟩, ⟨eD, eC, A4⟩⟩ := ⟨_, rfl⟩
 obtain ⟨E, hE⟩ : ∃ b, b = emptyB M := ⟨_, rfl⟩
 obtain ⟨TA, EQ⟩ : ∃ t, t = Tg.mk du ad ks1 ⟨ao, ⟨dZ, dY, all⟩, ⟨d8, d7, A6⟩⟩ := ⟨_, rfl⟩
 obtain ⟨TB, EP⟩ : ∃ t, t = Tg.mk dU bd ks2 ⟨bo, ⟨eB, eA, A3⟩, ⟨eD, eC, A4⟩⟩ := ⟨_, rfl⟩
 rw [← EQ] at RA
 rw [← EP] at RB
 obtain ⟨R, hR⟩ : ∃ t, t = plainT (Tg.mk du ad ks1 ⟨ao, ⟨dZ, dY, all⟩, ⟨d8, d7, A6⟩⟩) (Tg.mk dU bd ks2 ⟨bo, ⟨eB, eA, A3⟩, ⟨eD, eC, A4⟩⟩) := ⟨_, rfl⟩
 rw [← hR]
 have HP := I5 (show R = (if dU = 2 ∧ T1 = true then TB else if du = 2 ∧ T2 = true then TA else if du = 5 ∧ dU = 5 ∧ P1 = true then TA else if du = 5 ∧ dU = 5 ∧ P2 = true then TB else if du = 6 ∧ dU = 6 then (if K1 && !E then .mk 6 [] [] M else noT) else noT) by rw [hR, ES, ER, EV, EU, EY, hE, hM, EQ, EP]; rfl)
 have nX := I5 (fun w' (h : Below w.heap.size w w') => kK du eJ dV eI eU dN eT ao dZ dY eF ek eE all d8 d7 eH em eG A6 ad ej fd ft bd w' (Sa.out.after h) (SLa.out.after h) l2a (SHa.out.after h) l3a (Sb.out.after h) l1b)
 rw [← ES] at nX
 have mQ := I5 (fun w' (h : Below w.heap.size w w') => kK dU ej fd ft fI eS fH bo eB eA fm fe fk A3 eD eC fq ff fp A4 bd eJ dV eI ad w' (Sb.out.after h) (SLb.out.after h) l2b (SHb.out.after h) l3b (Sa.out.after h) l1a)
 rw [← ER] at mQ
 have nZ := I5 (fun w' (h : Below w.heap.size w w') => jh eJ dV eI ad ej fd ft bd w' (Sa.out.after h) (Sb.out.after h))
 rw [← EV] at nZ
 have nY := I5 (fun w' (h : Below w.heap.size w w') => jh ej fd ft bd eJ dV eI ad w' (Sb.out.after h) (Sa.out.after h))
 rw [← EU] at nY
 have CM := I5 (fun w' (h : Below w.heap.size w w') => pU ao dZ dY eF ek eE all d8 d7 eH em eG A6 bo eB eA fm fe fk A3 eD eC fq ff fp A4 w' (SLa.out.after h) l2a (SHa.out.after h) l3a (SLb.out.after h) l2b (SHb.out.after h) l3b)
 rw [← hM, ← EY] at CM
 have IU : M.o < 256 := by rw [hM]; unfold meetR; split; exact ho9a; decide
 have HE := I5 hE
 clear ES ER EV EU EY hM hE EQ EP hR l1a l1b l2a l2b l3a l3b Sa Sb SLa SLb SHa SHb
 let x0 := (((w.alloc (.cells #[.int .u8 du, .slice eJ dV eI, .slice eU dN eT, .int .u8 ao, .bool dZ, .bool dY, .slice eF ek eE, .bool d8, .bool d7, .slice eH em eG] 29)).alloc (.cells #[.int .u8 dU, .slice ej fd ft, .slice fI eS fH, .int .u8 bo, .bool eB, .bool eA, .slice fm fe fk, .bool eD, .bool eC, .slice fq ff fp] 29)).alloc (.cells #[.int .u8 0, .slice none 0 0, .slice none 0 0, .int .u8 0, .bool false, .bool false, .slice none 0 0, .bool false, .bool false, .slice none 0 0] 29))
 have B : Below w.heap.size w x0 := (((Below.refl _ _).alloc (Nat.le_refl _) _).alloc (by simp [x0, x0]) _).alloc (by simp [x0, x0]; omega) _
 have X : Hid (Box x0 w.heap.size 29 #[.int .u8 du, .slice eJ dV eI, .slice eU dN eT, .int .u8 ao, .bool dZ, .bool dY, .slice eF ek eE, .bool d8, .bool d7, .slice eH em eG]) := I5 (((Box.new _ _ _).alloc _).alloc _)
 have Y : Hid (Box x0 (w.heap.size + 1) 29 #[.int .u8 dU, .slice ej fd ft, .slice fI eS fH, .int .u8 bo, .bool eB, .bool eA, .slice fm fe fk, .bool eD, .bool eC, .slice fq ff fp]) := I5 (by
  have := (Box.new (w.alloc (.cells #[.int .u8 du, .slice eJ dV eI, .slice eU dN eT, .int .u8 ao, .bool dZ, .bool dY, .slice eF ek eE, .bool d8, .bool d7, .slice eH em eG] 29)) 29 #[.int .u8 dU, .slice ej fd ft, .slice fI eS fH, .int .u8 bo, .bool eB, .bool eA, .slice fm fe fk, .bool eD, .bool eC, .slice fq ff fp]).alloc (.cells #[.int .u8 0, .slice none 0 0, .slice none 0 0, .int .u8 0, .bool false, .bool false, .slice none 0 0, .bool false, .bool false, .slice none 0 0] 29)
  simpa [x0] using this)
 have Z : Hid (Box x0 (w.heap.size + 2) 29 #[.int .u8 0, .slice none 0 0, .slice none 0 0, .int .u8 0, .bool false, .bool false, .slice none 0 0, .bool false, .bool false, .slice none 0 0]) := I5 (by
  have := Box.new ((w.alloc (.cells #[.int .u8 du, .slice eJ dV eI, .slice eU dN eT, .int .u8 ao, .bool dZ, .bool dY, .slice eF ek eE, .bool d8, .bool d7, .slice eH em eG] 29)).alloc (.cells #[.int .u8 dU, .slice ej fd ft, .slice fI eS fH, .int .u8 bo, .bool eB, .bool eA, .slice fm fe fk, .bool eD, .bool eC, .slice fq ff fp] 29)) 29 #[.int .u8 0, .slice none 0 0, .slice none 0 0, .int .u8 0, .bool false, .bool false, .slice none 0 0, .bool false, .bool false, .slice none 0 0]
  simpa [x0] using this)
 simp only [TV.val]
 show Calls _ _ #[.agg #[.int .u8 du, .slice eJ dV eI, .slice eU dN eT, .int .u8 ao, .bool dZ, .bool dY, .slice eF ek eE, .bool d8, .bool d7, .slice eH em eG], .agg #[.int .u8 dU, .slice ej fd ft, .slice fI eS fH, .int .u8 bo, .bool eB, .bool eA, .slice fm fe fk, .bool eD, .bool eC, .slice fq ff fp]] _ _
 go_enter Tryz.func87, Tryz.ntmps87
 go_upto_region 1 with fail
 change Code.wp _ _ _ _ x0
 clear_value x0
 by_cases aK : dU = 2
 case pos =>
  subst aK
  have x_0 := X.out.cell 0 rfl
  have x_1 := X.out.cell 1 rfl
  have y_0 := Y.out.cell 0 rfl
  have y_1 := Y.out.cell 1 rfl
  go_wp2_with (refine ab rfl 29 _ rfl X.out (by rfl) Tryz.underlying29 rfl (by kernel_rfl) ?_)
  refine (nX.out x0 B).mono ?_
  rintro e x1 ⟨rfl, bx1⟩
  replace X := I5 (X.out.after bx1)
  replace Y := I5 (Y.out.after bx1)
  replace Z := I5 (Z.out.after bx1)
  replace B := B.trans (bx1.mono B.size)
  clear bx1
  clear nX
  try clear x_0 x_1 y_0 y_1
  cases T1 with
  | true =>
   have HR : R = TB := by rw [HP.out]; simp
   subst HR
   clear HP
   try clear nX
   try clear mQ
   try clear nZ
   try clear nY
   try clear CM
   have kQ := Z.out.lt
   go_wp2_with first | (refine ab rfl 29 _ rfl Y.out (by rfl) Tryz.underlying29 rfl (by kernel_rfl) ?_) | (refine ac (cells := #[.int .u8 ((2 : Nat) : Int), .slice ej fd ft, .slice fI eS fH, .int .u8 bo, .bool eB, .bool eA, .slice fm fe fk, .bool eD, .bool eC, .slice fq ff fp]) rfl 29 _ _ rfl Z.out (by rfl) (by rfl) rfl (by kernel_rfl) (by simp [Value.oneCell']) ?_; intro u9 X9 st9)
   have B9 := st9.below w.heap.size w (by omega) B
   have R9 : RdT (fun b => (ok b ∧ b < w.heap.size) ∨ w.heap.size ≤ b) u9 ⟨2, ej, fd, ft, fI, eS, fH, bo, eB, eA, fm, fe, fk, eD, eC, fq, ff, fp⟩ R := (RB.out.there.keep (w' := u9) (fun b hb => B9.block b hb.2)).mono (fun b hb => .inl hb)
   exact bodyPost_ret (v := .agg #[.int .u8 ((2 : Nat) : Int), .slice ej fd ft, .slice fI eS fH, .int .u8 bo, .bool eB, .bool eA, .slice fm fe fk, .bool eD, .bool eC, .slice fq ff fp]) (ae rfl _ _ (by rfl) X9 Tryz.underlying29 rfl (by kernel_rfl)) rfl ⟨⟨2, ej, fd, ft, fI, eS, fH, bo, eB, eA, fm, fe, fk, eD, eC, fq, ff, fp⟩, rfl, R9, B9⟩
  | false =>
   by_cases AQ : du = 2
   case pos =>
    subst AQ
    have x_0 := X.out.cell 0 rfl
    have x_1 := X.out.cell 1 rfl
    have y_0 := Y.out.cell 0 rfl
    have y_1 := Y.out.cell 1 rfl
    go_wp2_with (refine ab rfl 29 _ rfl Y.out (by rfl) Tryz.underlying29 rfl (by kernel_rfl) ?_)
    refine (mQ.out x1 B).mono ?_
    rintro e x2 ⟨rfl, bx2⟩
    replace X := I5 (X.out.after bx2)
    replace Y := I5 (Y.out.after bx2)
    replace Z := I5 (Z.out.after bx2)
    replace B := B.trans (bx2.mono B.size)
    clear bx2
    clear mQ
    try clear x_0 x_1 y_0 y_1
    cases T2 with
    | true =>
     have HR : R = TA := by rw [HP.out]; simp
     subst HR
     clear HP
     try clear nX
     try clear mQ
     try clear nZ
     try clear nY
     try clear CM
     have kQ := Z.out.lt
     go_wp2_with first | (refine ab rfl 29 _ rfl X.out (by rfl) Tryz.underlying29 rfl (by kernel_rfl) ?_) | (refine ac (cells := #[.int .u8 ((2 : Nat) : Int), .slice eJ dV eI, .slice eU dN eT, .int .u8 ao, .bool dZ, .bool dY, .slice eF ek eE, .bool d8, .bool d7, .slice eH em eG]) rfl 29 _ _ rfl Z.out (by rfl) (by rfl) rfl (by kernel_rfl) (by simp [Value.oneCell']) ?_; intro u9 X9 st9)
     have B9 := st9.below w.heap.size w (by omega) B
     have R9 : RdT (fun b => (ok b ∧ b < w.heap.size) ∨ w.heap.size ≤ b) u9 ⟨2, eJ, dV, eI, eU, dN, eT, ao, dZ, dY, eF, ek, eE, d8, d7, eH, em, eG⟩ R := (RA.out.there.keep (w' := u9) (fun b hb => B9.block b hb.2)).mono (fun b hb => .inl hb)
     exact bodyPost_ret (v := .agg #[.int .u8 ((2 : Nat) : Int), .slice eJ dV eI, .slice eU dN eT, .int .u8 ao, .bool dZ, .bool dY, .slice eF ek eE, .bool d8, .bool d7, .slice eH em eG]) (ae rfl _ _ (by rfl) X9 Tryz.underlying29 rfl (by kernel_rfl)) rfl ⟨⟨2, eJ, dV, eI, eU, dN, eT, ao, dZ, dY, eF, ek, eE, d8, d7, eH, em, eG⟩, rfl, R9, B9⟩
    | false =>
     have x_0 := X.out.cell 0 rfl
     have x_1 := X.out.cell 1 rfl
     have y_0 := Y.out.cell 0 rfl
     have y_1 := Y.out.cell 1 rfl
     have HR : R = noT := by rw [HP.out]; simp
     subst HR
     clear HP
     try clear nX
     try clear mQ
     try clear nZ
     try clear nY
     try clear CM
     go_wp2_with fail
     refine (bj x2).mono ?_
     rintro e y1 ⟨⟨cS, bR, bN, bP, bQ, bL, bO, to, cP, cN, cR, cO, cQ, cW, cT, cY, cU, cX⟩, rfl, rt, cd⟩
     have RT := I5 rt
     simp only [TV.val]
     clear rt
     have kQ := Z.out.lt
     try clear x_0 x_1 y_0 y_1
     replace X := I5 (X.out.after cd)
     replace Y := I5 (Y.out.after cd)
     replace Z := I5 (Z.out.after cd)
     replace B := B.trans (cd.mono B.size)
     clear cd
     go_wp2_with (refine ac (cells := #[.int .u8 cS, .slice bR bN bP, .slice bQ bL bO, .int .u8 to, .bool cP, .bool cN, .slice cR cO cQ, .bool cW, .bool cT, .slice cY cU cX]) rfl 29 _ _ rfl Z.out (by rfl) (by rfl) rfl (by kernel_rfl) (by simp [Value.oneCell']) ?_; intro u9 X9 st9)
     have B9 := st9.below w.heap.size w (by omega) B
     have R9 : RdT (fun b => (ok b ∧ b < w.heap.size) ∨ w.heap.size ≤ b) u9 ⟨cS, bR, bN, bP, bQ, bL, bO, to, cP, cN, cR, cO, cQ, cW, cT, cY, cU, cX⟩ noT := (RT.out.keep (fun b hb => st9.other b (by have h1 : x2.heap.size ≤ b := hb; omega))).mono (fun b hb => by have h1 : x2.heap.size ≤ b := hb; exact .inr (by omega))
     exact bodyPost_ret (v := .agg #[.int .u8 cS, .slice bR bN bP, .slice bQ bL bO, .int .u8 to, .bool cP, .bool cN, .slice cR cO cQ, .bool cW, .bool cT, .slice cY cU cX]) (ae rfl _ _ (by rfl) X9 Tryz.underlying29 rfl (by kernel_rfl)) rfl ⟨⟨cS, bR, bN, bP, bQ, bL, bO, to, cP, cN, cR, cO, cQ, cW, cT, cY, cU, cX⟩, rfl, R9, B9⟩
   have mZ : ((du : Int) == 2) = false := beq_eq_false_iff_ne.mpr (by omega)
   by_cases CX : du = 5
   case pos =>
    subst CX
    have x_0 := X.out.cell 0 rfl
    have x_1 := X.out.cell 1 rfl
    have y_0 := Y.out.cell 0 rfl
    have y_1 := Y.out.cell 1 rfl
    have HR : R = noT := by rw [HP.out]; simp
    subst HR
    clear HP
    try clear nX
    try clear mQ
    try clear nZ
    try clear nY
    try clear CM
    go_wp2_with fail
    refine (bj x1).mono ?_
    rintro e y1 ⟨⟨cS, bR, bN, bP, bQ, bL, bO, to, cP, cN, cR, cO, cQ, cW, cT, cY, cU, cX⟩, rfl, rt, cd⟩
    have RT := I5 rt
    simp only [TV.val]
    clear rt
    have kQ := Z.out.lt
    try clear x_0 x_1 y_0 y_1
    replace X := I5 (X.out.after cd)
    replace Y := I5 (Y.out.after cd)
    replace Z := I5 (Z.out.after cd)
    replace B := B.trans (cd.mono B.size)
    clear cd
    go_wp2_with (refine ac (cells := #[.int .u8 cS, .slice bR bN bP, .slice bQ bL bO, .int .u8 to, .bool cP, .bool cN, .slice cR cO cQ, .bool cW, .bool cT, .slice cY cU cX]) rfl 29 _ _ rfl Z.out (by rfl) (by rfl) rfl (by kernel_rfl) (by simp [Value.oneCell']) ?_; intro u9 X9 st9)
    have B9 := st9.below w.heap.size w (by omega) B
    have R9 : RdT (fun b => (ok b ∧ b < w.heap.size) ∨ w.heap.size ≤ b) u9 ⟨cS, bR, bN, bP, bQ, bL, bO, to, cP, cN, cR, cO, cQ, cW, cT, cY, cU, cX⟩ noT := (RT.out.keep (fun b hb => st9.other b (by have h1 : x1.heap.size ≤ b := hb; omega))).mono (fun b hb => by have h1 : x1.heap.size ≤ b := hb; exact .inr (by omega))
    exact bodyPost_ret (v := .agg #[.int .u8 cS, .slice bR bN bP, .slice bQ bL bO, .int .u8 to, .bool cP, .bool cN, .slice cR cO cQ, .bool cW, .bool cT, .slice cY cU cX]) (ae rfl _ _ (by rfl) X9 Tryz.underlying29 rfl (by kernel_rfl)) rfl ⟨⟨cS, bR, bN, bP, bQ, bL, bO, to, cP, cN, cR, cO, cQ, cW, cT, cY, cU, cX⟩, rfl, R9, B9⟩
   have na5 : ((du : Int) == 5) = false := beq_eq_false_iff_ne.mpr (by omega)
   by_cases CW : du = 6
   case pos =>
    subst CW
    have x_0 := X.out.cell 0 rfl
    have x_1 := X.out.cell 1 rfl
    have y_0 := Y.out.cell 0 rfl
    have y_1 := Y.out.cell 1 rfl
    have HR : R = noT := by rw [HP.out]; simp
    subst HR
    clear HP
    try clear nX
    try clear mQ
    try clear nZ
    try clear nY
    try clear CM
    go_wp2_with fail
    refine (bj x1).mono ?_
    rintro e y1 ⟨⟨cS, bR, bN, bP, bQ, bL, bO, to, cP, cN, cR, cO, cQ, cW, cT, cY, cU, cX⟩, rfl, rt, cd⟩
    have RT := I5 rt
    simp only [TV.val]
    clear rt
    have kQ := Z.out.lt
    try clear x_0 x_1 y_0 y_1
    replace X := I5 (X.out.after cd)
    replace Y := I5 (Y.out.after cd)
    replace Z := I5 (Z.out.after cd)
    replace B := B.trans (cd.mono B.size)
    clear cd
    go_wp2_with (refine ac (cells := #[.int .u8 cS, .slice bR bN bP, .slice bQ bL bO, .int .u8 to, .bool cP, .bool cN, .slice cR cO cQ, .bool cW, .bool cT, .slice cY cU cX]) rfl 29 _ _ rfl Z.out (by rfl) (by rfl) rfl (by kernel_rfl) (by simp [Value.oneCell']) ?_; intro u9 X9 st9)
    have B9 := st9.below w.heap.size w (by omega) B
    have R9 : RdT (fun b => (ok b ∧ b < w.heap.size) ∨ w.heap.size ≤ b) u9 ⟨cS, bR, bN, bP, bQ, bL, bO, to, cP, cN, cR, cO, cQ, cW, cT, cY, cU, cX⟩ noT := (RT.out.keep (fun b hb => st9.other b (by have h1 : x1.heap.size ≤ b := hb; omega))).mono (fun b hb => by have h1 : x1.heap.size ≤ b := hb; exact .inr (by omega))
    exact bodyPost_ret (v := .agg #[.int .u8 cS, .slice bR bN bP, .slice bQ bL bO, .int .u8 to, .bool cP, .bool cN, .slice cR cO cQ, .bool cW, .bool cT, .slice cY cU cX]) (ae rfl _ _ (by rfl) X9 Tryz.underlying29 rfl (by kernel_rfl)) rfl ⟨⟨cS, bR, bN, bP, bQ, bL, bO, to, cP, cN, cR, cO, cQ, cW, cT, cY, cU, cX⟩, rfl, R9, B9⟩
   have na6 : ((du : Int) == 6) = false := beq_eq_false_iff_ne.mpr (by omega)
   have x_0 := X.out.cell 0 rfl
   have x_1 := X.out.cell 1 rfl
   have y_0 := Y.out.cell 0 rfl
   have y_1 := Y.out.cell 1 rfl
   have HR : R = noT := by rw [HP.out]; simp [AQ, CX, CW]
   subst HR
   clear HP
   try clear nX
   try clear mQ
   try clear nZ
   try clear nY
   try clear CM
   go_wp2_with fail
   refine (bj x1).mono ?_
   rintro e y1 ⟨⟨cS, bR, bN, bP, bQ, bL, bO, to, cP, cN, cR, cO, cQ, cW, cT, cY, cU, cX⟩, rfl, rt, cd⟩
   have RT := I5 rt
   simp only [TV.val]
   clear rt
   have kQ := Z.out.lt
   try clear x_0 x_1 y_0 y_1
   replace X := I5 (X.out.after cd)
   replace Y := I5 (Y.out.after cd)
   replace Z := I5 (Z.out.after cd)
   replace B := B.trans (cd.mono B.size)
   clear cd
   go_wp2_with (refine ac (cells := #[.int .u8 cS, .slice bR bN bP, .slice bQ bL bO, .int .u8 to, .bool cP, .bool cN, .slice cR cO cQ, .bool cW, .bool cT, .slice cY cU cX]) rfl 29 _ _ rfl Z.out (by rfl) (by rfl) rfl (by kernel_rfl) (by simp [Value.oneCell']) ?_; intro u9 X9 st9)
   have B9 := st9.below w.heap.size w (by omega) B
   have R9 : RdT (fun b => (ok b ∧ b < w.heap.size) ∨ w.heap.size ≤ b) u9 ⟨cS, bR, bN, bP, bQ, bL, bO, to, cP, cN, cR, cO, cQ, cW, cT, cY, cU, cX⟩ noT := (RT.out.keep (fun b hb => st9.other b (by have h1 : x1.heap.size ≤ b := hb; omega))).mono (fun b hb => by have h1 : x1.heap.size ≤ b := hb; exact .inr (by omega))
   exact bodyPost_ret (v := .agg #[.int .u8 cS, .slice bR bN bP, .slice bQ bL bO, .int .u8 to, .bool cP, .bool cN, .slice cR cO cQ, .bool cW, .bool cT, .slice cY cU cX]) (ae rfl _ _ (by rfl) X9 Tryz.underlying29 rfl (by kernel_rfl)) rfl ⟨⟨cS, bR, bN, bP, bQ, bL, bO, to, cP, cN, cR, cO, cQ, cW, cT, cY, cU, cX⟩, rfl, R9, B9⟩
 have nb2 : ((dU : Int) == 2) = false := beq_eq_false_iff_ne.mpr (by omega)
 by_cases AQ : du = 2
 case pos =>
  subst AQ
  have x_0 := X.out.cell 0 rfl
  have x_1 := X.out.cell 1 rfl
  have y_0 := Y.out.cell 0 rfl
  have y_1 := Y.out.cell 1 rfl
  go_wp2_with (refine ab rfl 29 _ rfl Y.out (by rfl) Tryz.underlying29 rfl (by kernel_rfl) ?_)
  refine (mQ.out x0 B).mono ?_
  rintro e x1 ⟨rfl, bx1⟩
  replace X := I5 (X.out.after bx1)
  replace Y := I5 (Y.out.after bx1)
  replace Z := I5 (Z.out.after bx1)
  replace B := B.trans (bx1.mono B.size)
  clear bx1
  clear mQ
  try clear x_0 x_1 y_0 y_1
  cases T2 with
  | true =>
   have HR : R = TA := by rw [HP.out]; simp [aK]
   subst HR
   clear HP
   try clear nX
   try clear mQ
   try clear nZ
   try clear nY
   try clear CM
   have kQ := Z.out.lt
   go_wp2_with first | (refine ab rfl 29 _ rfl X.out (by rfl) Tryz.underlying29 rfl (by kernel_rfl) ?_) | (refine ac (cells := #[.int .u8 ((2 : Nat) : Int), .slice eJ dV eI, .slice eU dN eT, .int .u8 ao, .bool dZ, .bool dY, .slice eF ek eE, .bool d8, .bool d7, .slice eH em eG]) rfl 29 _ _ rfl Z.out (by rfl) (by rfl) rfl (by kernel_rfl) (by simp [Value.oneCell']) ?_; intro u9 X9 st9)
   have B9 := st9.below w.heap.size w (by omega) B
   have R9 : RdT (fun b => (ok b ∧ b < w.heap.size) ∨ w.heap.size ≤ b) u9 ⟨2, eJ, dV, eI, eU, dN, eT, ao, dZ, dY, eF, ek, eE, d8, d7, eH, em, eG⟩ R := (RA.out.there.keep (w' := u9) (fun b hb => B9.block b hb.2)).mono (fun b hb => .inl hb)
   exact bodyPost_ret (v := .agg #[.int .u8 ((2 : Nat) : Int), .slice eJ dV eI, .slice eU dN eT, .int .u8 ao, .bool dZ, .bool dY, .slice eF ek eE, .bool d8, .bool d7, .slice eH em eG]) (ae rfl _ _ (by rfl) X9 Tryz.underlying29 rfl (by kernel_rfl)) rfl ⟨⟨2, eJ, dV, eI, eU, dN, eT, ao, dZ, dY, eF, ek, eE, d8, d7, eH, em, eG⟩, rfl, R9, B9⟩
  | false =>
   have x_0 := X.out.cell 0 rfl
   have x_1 := X.out.cell 1 rfl
   have y_0 := Y.out.cell 0 rfl
   have y_1 := Y.out.cell 1 rfl
   have HR : R = noT := by rw [HP.out]; simp [aK]
   subst HR
   clear HP
   try clear nX
   try clear mQ
   try clear nZ
   try clear nY
   try clear CM
   go_wp2_with fail
   refine (bj x1).mono ?_
   rintro e y1 ⟨⟨cS, bR, bN, bP, bQ, bL, bO, to, cP, cN, cR, cO, cQ, cW, cT, cY, cU, cX⟩, rfl, rt, cd⟩
   have RT := I5 rt
   simp only [TV.val]
   clear rt
   have kQ := Z.out.lt
   try clear x_0 x_1 y_0 y_1
   replace X := I5 (X.out.after cd)
   replace Y := I5 (Y.out.after cd)
   replace Z := I5 (Z.out.after cd)
   replace B := B.trans (cd.mono B.size)
   clear cd
   go_wp2_with (refine ac (cells := #[.int .u8 cS, .slice bR bN bP, .slice bQ bL bO, .int .u8 to, .bool cP, .bool cN, .slice cR cO cQ, .bool cW, .bool cT, .slice cY cU cX]) rfl 29 _ _ rfl Z.out (by rfl) (by rfl) rfl (by kernel_rfl) (by simp [Value.oneCell']) ?_; intro u9 X9 st9)
   have B9 := st9.below w.heap.size w (by omega) B
   have R9 : RdT (fun b => (ok b ∧ b < w.heap.size) ∨ w.heap.size ≤ b) u9 ⟨cS, bR, bN, bP, bQ, bL, bO, to, cP, cN, cR, cO, cQ, cW, cT, cY, cU, cX⟩ noT := (RT.out.keep (fun b hb => st9.other b (by have h1 : x1.heap.size ≤ b := hb; omega))).mono (fun b hb => by have h1 : x1.heap.size ≤ b := hb; exact .inr (by omega))
   exact bodyPost_ret (v := .agg #[.int .u8 cS, .slice bR bN bP, .slice bQ bL bO, .int .u8 to, .bool cP, .bool cN, .slice cR cO cQ, .bool cW, .bool cT, .slice cY cU cX]) (ae rfl _ _ (by rfl) X9 Tryz.underlying29 rfl (by kernel_rfl)) rfl ⟨⟨cS, bR, bN, bP, bQ, bL, bO, to, cP, cN, cR, cO, cQ, cW, cT, cY, cU, cX⟩, rfl, R9, B9⟩
 have mZ : ((du : Int) == 2) = false := beq_eq_false_iff_ne.mpr (by omega)
 by_cases CX : du = 5
 case pos =>
  subst CX
  by_cases hb5 : dU = 5
  case pos =>
   subst hb5
   have x_0 := X.out.cell 0 rfl
   have x_1 := X.out.cell 1 rfl
   have y_0 := Y.out.cell 0 rfl
   have y_1 := Y.out.cell 1 rfl
   go_wp2_with fail
   refine (nZ.out x0 B).mono ?_
   rintro e x1 ⟨rfl, bx1⟩
   replace X := I5 (X.out.after bx1)
   replace Y := I5 (Y.out.after bx1)
   replace Z := I5 (Z.out.after bx1)
   replace B := B.trans (bx1.mono B.size)
   clear bx1
   clear nZ
   try clear x_0 x_1 y_0 y_1
   cases P1 with
   | true =>
    have HR : R = TA := by rw [HP.out]; simp
    subst HR
    clear HP
    try clear nX
    try clear mQ
    try clear nZ
    try clear nY
    try clear CM
    have kQ := Z.out.lt
    go_wp2_with first | (refine ab rfl 29 _ rfl X.out (by rfl) Tryz.underlying29 rfl (by kernel_rfl) ?_) | (refine ac (cells := #[.int .u8 ((5 : Nat) : Int), .slice eJ dV eI, .slice eU dN eT, .int .u8 ao, .bool dZ, .bool dY, .slice eF ek eE, .bool d8, .bool d7, .slice eH em eG]) rfl 29 _ _ rfl Z.out (by rfl) (by rfl) rfl (by kernel_rfl) (by simp [Value.oneCell']) ?_; intro u9 X9 st9)
    have B9 := st9.below w.heap.size w (by omega) B
    have R9 : RdT (fun b => (ok b ∧ b < w.heap.size) ∨ w.heap.size ≤ b) u9 ⟨5, eJ, dV, eI, eU, dN, eT, ao, dZ, dY, eF, ek, eE, d8, d7, eH, em, eG⟩ R := (RA.out.there.keep (w' := u9) (fun b hb => B9.block b hb.2)).mono (fun b hb => .inl hb)
    exact bodyPost_ret (v := .agg #[.int .u8 ((5 : Nat) : Int), .slice eJ dV eI, .slice eU dN eT, .int .u8 ao, .bool dZ, .bool dY, .slice eF ek eE, .bool d8, .bool d7, .slice eH em eG]) (ae rfl _ _ (by rfl) X9 Tryz.underlying29 rfl (by kernel_rfl)) rfl ⟨⟨5, eJ, dV, eI, eU, dN, eT, ao, dZ, dY, eF, ek, eE, d8, d7, eH, em, eG⟩, rfl, R9, B9⟩
   | false =>
    have x_0 := X.out.cell 0 rfl
    have x_1 := X.out.cell 1 rfl
    have y_0 := Y.out.cell 0 rfl
    have y_1 := Y.out.cell 1 rfl
    go_wp2_with fail
    refine (nY.out x1 B).mono ?_
    rintro e x2 ⟨rfl, bx2⟩
    replace X := I5 (X.out.after bx2)
    replace Y := I5 (Y.out.after bx2)
    replace Z := I5 (Z.out.after bx2)
    replace B := B.trans (bx2.mono B.size)
    clear bx2
    clear nY
    try clear x_0 x_1 y_0 y_1
    cases P2 with
    | true =>
     have HR : R = TB := by rw [HP.out]; simp
     subst HR
     clear HP
     try clear nX
     try clear mQ
     try clear nZ
     try clear nY
     try clear CM
     have kQ := Z.out.lt
     go_wp2_with first | (refine ab rfl 29 _ rfl Y.out (by rfl) Tryz.underlying29 rfl (by kernel_rfl) ?_) | (refine ac (cells := #[.int .u8 ((5 : Nat) : Int), .slice ej fd ft, .slice fI eS fH, .int .u8 bo, .bool eB, .bool eA, .slice fm fe fk, .bool eD, .bool eC, .slice fq ff fp]) rfl 29 _ _ rfl Z.out (by rfl) (by rfl) rfl (by kernel_rfl) (by simp [Value.oneCell']) ?_; intro u9 X9 st9)
     have B9 := st9.below w.heap.size w (by omega) B
     have R9 : RdT (fun b => (ok b ∧ b < w.heap.size) ∨ w.heap.size ≤ b) u9 ⟨5, ej, fd, ft, fI, eS, fH, bo, eB, eA, fm, fe, fk, eD, eC, fq, ff, fp⟩ R := (RB.out.there.keep (w' := u9) (fun b hb => B9.block b hb.2)).mono (fun b hb => .inl hb)
     exact bodyPost_ret (v := .agg #[.int .u8 ((5 : Nat) : Int), .slice ej fd ft, .slice fI eS fH, .int .u8 bo, .bool eB, .bool eA, .slice fm fe fk, .bool eD, .bool eC, .slice fq ff fp]) (ae rfl _ _ (by rfl) X9 Tryz.underlying29 rfl (by kernel_rfl)) rfl ⟨⟨5, ej, fd, ft, fI, eS, fH, bo, eB, eA, fm, fe, fk, eD, eC, fq, ff, fp⟩, rfl, R9, B9⟩
    | false =>
     have x_0 := X.out.cell 0 rfl
     have x_1 := X.out.cell 1 rfl
     have y_0 := Y.out.cell 0 rfl
     have y_1 := Y.out.cell 1 rfl
     have HR : R = noT := by rw [HP.out]; simp
     subst HR
     clear HP
     try clear nX
     try clear mQ
     try clear nZ
     try clear nY
     try clear CM
     go_wp2_with fail
     refine (bj x2).mono ?_
     rintro e y1 ⟨⟨cS, bR, bN, bP, bQ, bL, bO, to, cP, cN, cR, cO, cQ, cW, cT, cY, cU, cX⟩, rfl, rt, cd⟩
     have RT := I5 rt
     simp only [TV.val]
     clear rt
     have kQ := Z.out.lt
     try clear x_0 x_1 y_0 y_1
     replace X := I5 (X.out.after cd)
     replace Y := I5 (Y.out.after cd)
     replace Z := I5 (Z.out.after cd)
     replace B := B.trans (cd.mono B.size)
     clear cd
     go_wp2_with (refine ac (cells := #[.int .u8 cS, .slice bR bN bP, .slice bQ bL bO, .int .u8 to, .bool cP, .bool cN, .slice cR cO cQ, .bool cW, .bool cT, .slice cY cU cX]) rfl 29 _ _ rfl Z.out (by rfl) (by rfl) rfl (by kernel_rfl) (by simp [Value.oneCell']) ?_; intro u9 X9 st9)
     have B9 := st9.below w.heap.size w (by omega) B
     have R9 : RdT (fun b => (ok b ∧ b < w.heap.size) ∨ w.heap.size ≤ b) u9 ⟨cS, bR, bN, bP, bQ, bL, bO, to, cP, cN, cR, cO, cQ, cW, cT, cY, cU, cX⟩ noT := (RT.out.keep (fun b hb => st9.other b (by have h1 : x2.heap.size ≤ b := hb; omega))).mono (fun b hb => by have h1 : x2.heap.size ≤ b := hb; exact .inr (by omega))
     exact bodyPost_ret (v := .agg #[.int .u8 cS, .slice bR bN bP, .slice bQ bL bO, .int .u8 to, .bool cP, .bool cN, .slice cR cO cQ, .bool cW, .bool cT, .slice cY cU cX]) (ae rfl _ _ (by rfl) X9 Tryz.underlying29 rfl (by kernel_rfl)) rfl ⟨⟨cS, bR, bN, bP, bQ, bL, bO, to, cP, cN, cR, cO, cQ, cW, cT, cY, cU, cX⟩, rfl, R9, B9⟩
  have nb5 : ((dU : Int) == 5) = false := beq_eq_false_iff_ne.mpr (by omega)
  have x_0 := X.out.cell 0 rfl
  have x_1 := X.out.cell 1 rfl
  have y_0 := Y.out.cell 0 rfl
  have y_1 := Y.out.cell 1 rfl
  have HR : R = noT := by rw [HP.out]; simp [aK, hb5]
  subst HR
  clear HP
  try clear nX
  try clear mQ
  try clear nZ
  try clear nY
  try clear CM
  go_wp2_with fail
  refine (bj x0).mono ?_
  rintro e y1 ⟨⟨cS, bR, bN, bP, bQ, bL, bO, to, cP, cN, cR, cO, cQ, cW, cT, cY, cU, cX⟩, rfl, rt, cd⟩
  have RT := I5 rt
  simp only [TV.val]
  clear rt
  have kQ := Z.out.lt
  try clear x_0 x_1 y_0 y_1
  replace X := I5 (X.out.after cd)
  replace Y := I5 (Y.out.after cd)
  replace Z := I5 (Z.out.after cd)
  replace B := B.trans (cd.mono B.size)
  clear cd
  go_wp2_with (refine ac (cells := #[.int .u8 cS, .slice bR bN bP, .slice bQ bL bO, .int .u8 to, .bool cP, .bool cN, .slice cR cO cQ, .bool cW, .bool cT, .slice cY cU cX]) rfl 29 _ _ rfl Z.out (by rfl) (by rfl) rfl (by kernel_rfl) (by simp [Value.oneCell']) ?_; intro u9 X9 st9)
  have B9 := st9.below w.heap.size w (by omega) B
  have R9 : RdT (fun b => (ok b ∧ b < w.heap.size) ∨ w.heap.size ≤ b) u9 ⟨cS, bR, bN, bP, bQ, bL, bO, to, cP, cN, cR, cO, cQ, cW, cT, cY, cU, cX⟩ noT := (RT.out.keep (fun b hb => st9.other b (by have h1 : x0.heap.size ≤ b := hb; omega))).mono (fun b hb => by have h1 : x0.heap.size ≤ b := hb; exact .inr (by omega))
  exact bodyPost_ret (v := .agg #[.int .u8 cS, .slice bR bN bP, .slice bQ bL bO, .int .u8 to, .bool cP, .bool cN, .slice cR cO cQ, .bool cW, .bool cT, .slice cY cU cX]) (ae rfl _ _ (by rfl) X9 Tryz.underlying29 rfl (by kernel_rfl)) rfl ⟨⟨cS, bR, bN, bP, bQ, bL, bO, to, cP, cN, cR, cO, cQ, cW, cT, cY, cU, cX⟩, rfl, R9, B9⟩
 have na5 : ((du : Int) == 5) = false := beq_eq_false_iff_ne.mpr (by omega)
 by_cases CW : du = 6
 case pos =>
  subst CW
  by_cases hb6 : dU = 6
  case pos =>
   subst hb6
   have x_0 := X.out.cell 0 rfl
   have x_1 := X.out.cell 1 rfl
   have y_0 := Y.out.cell 0 rfl
   have y_1 := Y.out.cell 1 rfl
   go_wp2_with first | (refine ai rfl 27 _ rfl _ 3 rfl [.int .u8 ao, .bool dZ, .bool dY, .slice eF ek eE, .bool d8, .bool d7, .slice eH em eG] _ (Box.midR X.out 3 [.int .u8 ao, .bool dZ, .bool dY, .slice eF ek eE, .bool d8, .bool d7, .slice eH em eG] rfl) Tryz.underlying27 rfl (by kernel_rfl) ?_) | (refine ai rfl 27 _ rfl _ 3 rfl [.int .u8 bo, .bool eB, .bool eA, .slice fm fe fk, .bool eD, .bool eC, .slice fq ff fp] _ (Box.midR Y.out 3 [.int .u8 bo, .bool eB, .bool eA, .slice fm fe fk, .bool eD, .bool eC, .slice fq ff fp] rfl) Tryz.underlying27 rfl (by kernel_rfl) ?_)
   refine (CM.out x0 B).mono ?_
   rintro e y1 ⟨⟨mo, Ah, Ag, Ai, zA, Bt, DN, Ak, Aj, Al, zB, Bu, DO⟩, rfl, F4, ⟨ms1, ms2, ms3, ms4⟩, mo1, mo2, cd⟩
   clear CM
   simp only [RgV.val]
   have Fl := I5 F4
   have MS1 := I5 ms1
   have MS3 := I5 ms3
   have MO1 := I5 mo1
   have MO2 := I5 mo2
   replace ms2 : zA ≤ 6000 := ms2
   replace ms4 : zB ≤ 6000 := ms4
   clear F4 ms1 ms3 mo1 mo2
   have kQ := Z.out.lt
   try clear x_0 x_1 y_0 y_1
   replace X := I5 (X.out.after cd)
   replace Y := I5 (Y.out.after cd)
   replace Z := I5 (Z.out.after cd)
   replace B := B.trans (cd.mono B.size)
   clear cd
   go_upto_region 11 with (refine ac (cells := #[.int .u8 mo, .bool Ah, .bool Ag, .slice Ai zA Bt, .bool Ak, .bool Aj, .slice Al zB Bu]) rfl 27 _ _ rfl (Box.new _ _ _) (by rfl) (by rfl) rfl (by kernel_rfl) (by simp [Value.oneCell']) ?_; intro u9 X9 st9)
   have bs1 : Below y1.heap.size y1 u9 := st9.below y1.heap.size y1 (Nat.le_refl _) ((Below.refl _ _).alloc (Nat.le_refl _) _)
   have V := I5 X9
   replace X := I5 (X.out.after bs1)
   replace Y := I5 (Y.out.after bs1)
   replace Z := I5 (Z.out.after bs1)
   replace MS1 := I5 (MS1.out.after bs1)
   replace MS3 := I5 (MS3.out.after bs1)
   replace B := B.trans (bs1.mono B.size)
   clear bs1 st9 X9
   generalize u9 = x1 at *
   generalize y1.heap.size = y2 at *
   cases K1 with
   | true =>
    go_wp2_with (refine ab rfl 27 _ rfl V.out (by rfl) Tryz.underlying27 rfl (by kernel_rfl) ?_)
    refine (uK mo Ah Ag Ai zA Bt DN Ak Aj Al zB Bu DO x1 MS1.out ms2 MS3.out ms4).mono ?_
    rintro e x2 ⟨rfl, bx2⟩
    replace X := I5 (X.out.after bx2)
    replace Y := I5 (Y.out.after bx2)
    replace Z := I5 (Z.out.after bx2)
    replace MS1 := I5 (MS1.out.after bx2)
    replace MS3 := I5 (MS3.out.after bx2)
    replace V := I5 (V.out.after bx2)
    replace B := B.trans (bx2.mono B.size)
    clear bx2
    rw [show emptyB ⟨mo, ⟨Ah, Ag, DN⟩, ⟨Ak, Aj, DO⟩⟩ = E from by rw [HE.out, ← Fl.out]; rfl]
    cases E with
    | true =>
     have x_0 := X.out.cell 0 rfl
     have x_1 := X.out.cell 1 rfl
     have y_0 := Y.out.cell 0 rfl
     have y_1 := Y.out.cell 1 rfl
     have HR : R = noT := by rw [HP.out]; simp
     subst HR
     clear HP
     try clear nX
     try clear mQ
     try clear nZ
     try clear nY
     try clear CM
     go_wp2_with fail
     refine (bj x2).mono ?_
     rintro e y1 ⟨⟨cS, bR, bN, bP, bQ, bL, bO, to, cP, cN, cR, cO, cQ, cW, cT, cY, cU, cX⟩, rfl, rt, cd⟩
     have RT := I5 rt
     simp only [TV.val]
     clear rt
     have kQ := Z.out.lt
     try clear x_0 x_1 y_0 y_1
     replace X := I5 (X.out.after cd)
     replace Y := I5 (Y.out.after cd)
     replace Z := I5 (Z.out.after cd)
     replace MS1 := I5 (MS1.out.after cd)
     replace MS3 := I5 (MS3.out.after cd)
     replace V := I5 (V.out.after cd)
     replace B := B.trans (cd.mono B.size)
     clear cd
     go_wp2_with (refine ac (cells := #[.int .u8 cS, .slice bR bN bP, .slice bQ bL bO, .int .u8 to, .bool cP, .bool cN, .slice cR cO cQ, .bool cW, .bool cT, .slice cY cU cX]) rfl 29 _ _ rfl Z.out (by rfl) (by rfl) rfl (by kernel_rfl) (by simp [Value.oneCell']) ?_; intro u9 X9 st9)
     have B9 := st9.below w.heap.size w (by omega) B
     have R9 : RdT (fun b => (ok b ∧ b < w.heap.size) ∨ w.heap.size ≤ b) u9 ⟨cS, bR, bN, bP, bQ, bL, bO, to, cP, cN, cR, cO, cQ, cW, cT, cY, cU, cX⟩ noT := (RT.out.keep (fun b hb => st9.other b (by have h1 : x2.heap.size ≤ b := hb; omega))).mono (fun b hb => by have h1 : x2.heap.size ≤ b := hb; exact .inr (by omega))
     exact bodyPost_ret (v := .agg #[.int .u8 cS, .slice bR bN bP, .slice bQ bL bO, .int .u8 to, .bool cP, .bool cN, .slice cR cO cQ, .bool cW, .bool cT, .slice cY cU cX]) (ae rfl _ _ (by rfl) X9 Tryz.underlying29 rfl (by kernel_rfl)) rfl ⟨⟨cS, bR, bN, bP, bQ, bL, bO, to, cP, cN, cR, cO, cQ, cW, cT, cY, cU, cX⟩, rfl, R9, B9⟩
    | false =>
     have HR : R = .mk 6 [] [] M := by rw [HP.out]; simp
     subst HR
     clear HP
     try clear nX
     try clear mQ
     try clear nZ
     try clear nY
     try clear CM
     go_wp2_with first | (refine ab rfl 27 _ rfl V.out (by rfl) Tryz.underlying27 rfl (by kernel_rfl) ?_) | (refine ac (cells := #[.int .u8 6, .slice none 0 0, .slice none 0 0, .int .u8 mo, .bool Ah, .bool Ag, .slice Ai zA Bt, .bool Ak, .bool Aj, .slice Al zB Bu]) rfl 29 _ _ rfl Z.out (by rfl) (by rfl) rfl (by kernel_rfl) (by simp [Value.oneCell']) ?_; intro u9 X9 st9)
     have B9 := st9.below w.heap.size w (by omega) B
     have i1 : InB (fun b => w.heap.size + 3 ≤ b) Ai zA := sZ MS1.out (MO1.out.le (by omega))
     have i2 : InB (fun b => w.heap.size + 3 ≤ b) Al zB := sZ MS3.out (MO2.out.le (by omega))
     have R9 : RdT (fun b => w.heap.size ≤ b) u9 ⟨6, none, 0, 0, none, 0, 0, mo, Ah, Ag, Ai, zA, Bt, Ak, Aj, Al, zB, Bu⟩ (.mk 6 [] [] M) := by
      rw [← Fl.out]
      exact .mk _ [] [] DN DO (fun _ => TV.nil) (Sl.nil _) (.inl rfl) (MS1.out.keep (i1.imp id fun h b o s e => st9.other b (by have h1 : w.heap.size + 3 ≤ b := h b o s e; omega))) (i1.mono fun b hb => by have h1 : w.heap.size + 3 ≤ b := hb; show w.heap.size ≤ b; omega) (MS3.out.keep (i2.imp id fun h b o s e => st9.other b (by have h1 : w.heap.size + 3 ≤ b := h b o s e; omega))) (i2.mono fun b hb => by have h1 : w.heap.size + 3 ≤ b := hb; show w.heap.size ≤ b; omega) ⟨Nat.le_refl _, Nat.zero_le _, fun _ => rfl, .inl rfl⟩ (.inl rfl) rfl (fun i hi => by cases hi) (by show 6 < 256; omega) (by show mo < 256; have h1 : mo = M.o := congrArg Rg.o Fl.out; omega)
     exact bodyPost_ret (v := .agg #[.int .u8 6, .slice none 0 0, .slice none 0 0, .int .u8 mo, .bool Ah, .bool Ag, .slice Ai zA Bt, .bool Ak, .bool Aj, .slice Al zB Bu]) (ae rfl _ _ (by rfl) X9 Tryz.underlying29 rfl (by kernel_rfl)) rfl ⟨⟨6, none, 0, 0, none, 0, 0, mo, Ah, Ag, Ai, zA, Bt, Ak, Aj, Al, zB, Bu⟩, rfl, R9.mono (fun b hb => .inr hb), B9⟩
   | false =>
    have x_0 := X.out.cell 0 rfl
    have x_1 := X.out.cell 1 rfl
    have y_0 := Y.out.cell 0 rfl
    have y_1 := Y.out.cell 1 rfl
    have HR : R = noT := by rw [HP.out]; simp
    subst HR
    clear HP
    try clear nX
    try clear mQ
    try clear nZ
    try clear nY
    try clear CM
    go_wp2_with fail
    refine (bj x1).mono ?_
    rintro e y1 ⟨⟨cS, bR, bN, bP, bQ, bL, bO, to, cP, cN, cR, cO, cQ, cW, cT, cY, cU, cX⟩, rfl, rt, cd⟩
    have RT := I5 rt
    simp only [TV.val]
    clear rt
    have kQ := Z.out.lt
    try clear x_0 x_1 y_0 y_1
    replace X := I5 (X.out.after cd)
    replace Y := I5 (Y.out.after cd)
    replace Z := I5 (Z.out.after cd)
    replace MS1 := I5 (MS1.out.after cd)
    replace MS3 := I5 (MS3.out.after cd)
    replace V := I5 (V.out.after cd)
    replace B := B.trans (cd.mono B.size)
    clear cd
    go_wp2_with (refine ac (cells := #[.int .u8 cS, .slice bR bN bP, .slice bQ bL bO, .int .u8 to, .bool cP, .bool cN, .slice cR cO cQ, .bool cW, .bool cT, .slice cY cU cX]) rfl 29 _ _ rfl Z.out (by rfl) (by rfl) rfl (by kernel_rfl) (by simp [Value.oneCell']) ?_; intro u9 X9 st9)
    have B9 := st9.below w.heap.size w (by omega) B
    have R9 : RdT (fun b => (ok b ∧ b < w.heap.size) ∨ w.heap.size ≤ b) u9 ⟨cS, bR, bN, bP, bQ, bL, bO, to, cP, cN, cR, cO, cQ, cW, cT, cY, cU, cX⟩ noT := (RT.out.keep (fun b hb => st9.other b (by have h1 : x1.heap.size ≤ b := hb; omega))).mono (fun b hb => by have h1 : x1.heap.size ≤ b := hb; exact .inr (by omega))
    exact bodyPost_ret (v := .agg #[.int .u8 cS, .slice bR bN bP, .slice bQ bL bO, .int .u8 to, .bool cP, .bool cN, .slice cR cO cQ, .bool cW, .bool cT, .slice cY cU cX]) (ae rfl _ _ (by rfl) X9 Tryz.underlying29 rfl (by kernel_rfl)) rfl ⟨⟨cS, bR, bN, bP, bQ, bL, bO, to, cP, cN, cR, cO, cQ, cW, cT, cY, cU, cX⟩, rfl, R9, B9⟩
  have nb6 : ((dU : Int) == 6) = false := beq_eq_false_iff_ne.mpr (by omega)
  have x_0 := X.out.cell 0 rfl
  have x_1 := X.out.cell 1 rfl
  have y_0 := Y.out.cell 0 rfl
  have y_1 := Y.out.cell 1 rfl
  have HR : R = noT := by rw [HP.out]; simp [aK, hb6]
  subst HR
  clear HP
  try clear nX
  try clear mQ
  try clear nZ
  try clear nY
  try clear CM
  go_wp2_with fail
  refine (bj x0).mono ?_
  rintro e y1 ⟨⟨cS, bR, bN, bP, bQ, bL, bO, to, cP, cN, cR, cO, cQ, cW, cT, cY, cU, cX⟩, rfl, rt, cd⟩
  have RT := I5 rt
  simp only [TV.val]
  clear rt
  have kQ := Z.out.lt
  try clear x_0 x_1 y_0 y_1
  replace X := I5 (X.out.after cd)
  replace Y := I5 (Y.out.after cd)
  replace Z := I5 (Z.out.after cd)
  replace B := B.trans (cd.mono B.size)
  clear cd
  go_wp2_with (refine ac (cells := #[.int .u8 cS, .slice bR bN bP, .slice bQ bL bO, .int .u8 to, .bool cP, .bool cN, .slice cR cO cQ, .bool cW, .bool cT, .slice cY cU cX]) rfl 29 _ _ rfl Z.out (by rfl) (by rfl) rfl (by kernel_rfl) (by simp [Value.oneCell']) ?_; intro u9 X9 st9)
  have B9 := st9.below w.heap.size w (by omega) B
  have R9 : RdT (fun b => (ok b ∧ b < w.heap.size) ∨ w.heap.size ≤ b) u9 ⟨cS, bR, bN, bP, bQ, bL, bO, to, cP, cN, cR, cO, cQ, cW, cT, cY, cU, cX⟩ noT := (RT.out.keep (fun b hb => st9.other b (by have h1 : x0.heap.size ≤ b := hb; omega))).mono (fun b hb => by have h1 : x0.heap.size ≤ b := hb; exact .inr (by omega))
  exact bodyPost_ret (v := .agg #[.int .u8 cS, .slice bR bN bP, .slice bQ bL bO, .int .u8 to, .bool cP, .bool cN, .slice cR cO cQ, .bool cW, .bool cT, .slice cY cU cX]) (ae rfl _ _ (by rfl) X9 Tryz.underlying29 rfl (by kernel_rfl)) rfl ⟨⟨cS, bR, bN, bP, bQ, bL, bO, to, cP, cN, cR, cO, cQ, cW, cT, cY, cU, cX⟩, rfl, R9, B9⟩
 have na6 : ((du : Int) == 6) = false := beq_eq_false_iff_ne.mpr (by omega)
 have x_0 := X.out.cell 0 rfl
 have x_1 := X.out.cell 1 rfl
 have y_0 := Y.out.cell 0 rfl
 have y_1 := Y.out.cell 1 rfl
 have HR : R = noT := by rw [HP.out]; simp [aK, AQ, CX, CW]
 subst HR
 clear HP
 try clear nX
 try clear mQ
 try clear nZ
 try clear nY
 try clear CM
 go_wp2_with fail
 refine (bj x0).mono ?_
 rintro e y1 ⟨⟨cS, bR, bN, bP, bQ, bL, bO, to, cP, cN, cR, cO, cQ, cW, cT, cY, cU, cX⟩, rfl, rt, cd⟩
 have RT := I5 rt
 simp only [TV.val]
 clear rt
 have kQ := Z.out.lt
 try clear x_0 x_1 y_0 y_1
 replace X := I5 (X.out.after cd)
 replace Y := I5 (Y.out.after cd)
 replace Z := I5 (Z.out.after cd)
 replace B := B.trans (cd.mono B.size)
 clear cd
 go_wp2_with (refine ac (cells := #[.int .u8 cS, .slice bR bN bP, .slice bQ bL bO, .int .u8 to, .bool cP, .bool cN, .slice cR cO cQ, .bool cW, .bool cT, .slice cY cU cX]) rfl 29 _ _ rfl Z.out (by rfl) (by rfl) rfl (by kernel_rfl) (by simp [Value.oneCell']) ?_; intro u9 X9 st9)
 have B9 := st9.below w.heap.size w (by omega) B
 have R9 : RdT (fun b => (ok b ∧ b < w.heap.size) ∨ w.heap.size ≤ b) u9 ⟨cS, bR, bN, bP, bQ, bL, bO, to, cP, cN, cR, cO, cQ, cW, cT, cY, cU, cX⟩ noT := (RT.out.keep (fun b hb => st9.other b (by have h1 : x0.heap.size ≤ b := hb; omega))).mono (fun b hb => by have h1 : x0.heap.size ≤ b := hb; exact .inr (by omega))
 exact bodyPost_ret (v := .agg #[.int .u8 cS, .slice bR bN bP, .slice bQ bL bO, .int .u8 to, .bool cP, .bool cN, .slice cR cO cQ, .bool cW, .bool cT, .slice cY cU cX]) (ae rfl _ _ (by rfl) X9 Tryz.underlying29 rfl (by kernel_rfl)) rfl ⟨⟨cS, bR, bN, bP, bQ, bL, bO, to, cP, cN, cR, cO, cQ, cW, cT, cY, cU, cX⟩, rfl, R9, B9⟩
end Go.Proofs.YtmmkaclmgnpplaaGreatDoor

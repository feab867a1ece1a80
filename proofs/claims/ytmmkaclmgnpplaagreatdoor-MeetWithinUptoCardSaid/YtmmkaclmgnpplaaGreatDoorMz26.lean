import Derived.Test.YtmmkaclmgnpplaaGreatDoorMz25
set_option maxRecDepth 100000
set_option maxHeartbeats 64000000
set_option linter.unusedSimpArgs false
set_option linter.unusedVariables false
namespace Go.Proofs.YtmmkaclmgnpplaaGreatDoor
open Go.RowKit
theorem pv {da : List UInt8} {ks : List Tg} {r : Rg} (v : TV) (w : World) (hr : RdT (fun _ => True) w v (.mk 2 da ks r)) (hd : da.length ≤ 5000) :
  Calls Tryz.prog 39 #[v.val] w (ValI (fun b => w.heap.size ≤ b) (at1 da) w) := by
 obtain ⟨⟨cH, ho, cK, dv, dx, dw, fJ, fF⟩, an, hsl, cf, hn, K, ah, hk⟩ := hr.parts
 obtain ⟨ay, aw, ap, av, aA, aS, az, vo, am, ak, aE, aB, aD, ar, aq, aI, aC, aH⟩ := v
 obtain ⟨ro, ⟨li, lo, ll⟩, ⟨hi, mN, hl⟩⟩ := r
 dsimp only [Tg.kd, Tg.r, Tg.da, Tg.ks] at cH ho cK dv dx dw fJ fF an hsl cf hn ah hk
 obtain rfl : ay = 2 := cH
 subst ho cK dv dx dw hn
 have fL := I5 an
 have ke := I5 hsl
 have kf := I5 cf
 have HR := I5 ah
 have HK := I5 hk
 have ep := I5 an.1
 have kF := I5 hsl.1
 have kG := I5 cf.1
 have cF := Nat.le_trans an.2.1 an.2.2.1
 have cE := Nat.le_trans ah.1 ah.2.1
 unfold maxLen at cF cE
 clear an hsl cf ah hk hr
 have ig : ap ≤ 1000000 := by have := ep.out; omega
 let x0 := ((w.alloc (.cells #[.int .u8 (2 : Nat), .slice aw ap av, .slice aA ks.length az, .int .u8 vo, .bool am, .bool ak, .slice aE aB aD, .bool ar, .bool aq, .slice aI aC aH] 29)).alloc (.cells #[.bool false, .bool false, .slice none 0 0, .slice none 0 0, .slice none 0 0] 32))
 have B : Below w.heap.size w x0 := ((Below.refl _ _).alloc (Nat.le_refl _) _).alloc (by simp [x0, x0]) _
 have X : Hid (Box x0 w.heap.size 29 #[.int .u8 (2 : Nat), .slice aw ap av, .slice aA ks.length az, .int .u8 vo, .bool am, .bool ak, .slice aE aB aD, .bool ar, .bool aq, .slice aI aC aH]) := I5 ((Box.new _ _ _).alloc _)
 have Y : Hid (Box x0 (w.heap.size + 1) 32 #[.bool false, .bool false, .slice none 0 0, .slice none 0 0, .slice none 0 0]) := I5 (by
  have := Box.new (w.alloc (.cells #[.int .u8 (2 : Nat), .slice aw ap av, .slice aA ks.length az, .int .u8 vo, .bool am, .bool ak, .slice aE aB aD, .bool ar, .bool aq, .slice aI aC aH] 29)) 32 #[.bool false, .bool false, .slice none 0 0, .slice none 0 0, .slice none 0 0]
  simpa [x0] using this)
 show Calls _ _ #[.agg #[.int .u8 (2 : Nat), .slice aw ap av, .slice aA ks.length az, .int .u8 vo, .bool am, .bool ak, .slice aE aB aD, .bool ar, .bool aq, .slice aI aC aH]] _ _
 go_enter Tryz.func39, Tryz.ntmps39
 go_upto_region 1 with fail
 change Code.wp _ _ _ _ x0
 clear_value x0
 have q0 := X.out.cell 0 rfl
 have q1 := X.out.cell 1 rfl
 have zD := Y.out.lt
 go_wp2_with fail
 refine (dq aw ap av da x0 (fL.out.after B) ig).mono ?_
 rintro e x1 ⟨v1, rfl, o1, bx1⟩
 obtain ⟨p, m, q, rfl, hsl, nN⟩ := OwnB.parts o1
 have RA : Hid (RdI (fun b => w.heap.size + 2 ≤ b) x1 ⟨false, false, none, 0, 0, p, m, q, none, 0, 0⟩ (at1 da)) := I5 (de hsl (nN.imp id fun h b o s e => by have h1 := h b o s e; show w.heap.size + 2 ≤ b; omega))
 clear o1 hsl nN q0 q1
 replace X := I5 (X.out.after bx1)
 replace Y := I5 (Y.out.after bx1)
 replace B := B.trans (bx1.mono B.size)
 clear bx1
 go_wp2_with (refine ac (cells := #[.bool false, .bool false, .slice none 0 0, .slice p m q, .slice none 0 0]) rfl 32 _ _ rfl Y.out (by rfl) (by rfl) rfl (by kernel_rfl) (by simp [Value.oneCell']) ?_; intro u9 X9 st9)
 have B9 := st9.below w.heap.size w (by omega) B
 have R9 : RdI (fun b => w.heap.size ≤ b) u9 ⟨false, false, none, 0, 0, p, m, q, none, 0, 0⟩ (at1 da) := (RA.out.keep (w' := u9) (fun b hb => st9.other b (by have h1 : w.heap.size + 2 ≤ b := hb; omega))).mono (fun b hb => by have h1 : w.heap.size + 2 ≤ b := hb; show w.heap.size ≤ b; omega)
 exact bodyPost_ret (v := .agg #[.bool false, .bool false, .slice none 0 0, .slice p m q, .slice none 0 0]) (ae rfl _ _ (by rfl) X9 Tryz.underlying32 rfl (by kernel_rfl)) rfl ⟨⟨false, false, none, 0, 0, p, m, q, none, 0, 0⟩, rfl, R9, B9⟩
theorem pw {da : List UInt8} {ks : List Tg} {r : Rg} (v : TV) (w : World) (hr : RdT (fun _ => True) w v (.mk 1 da ks r))  :
  Calls Tryz.prog 39 #[v.val] w (ValI (fun b => w.heap.size ≤ b) (li [at1 starL]) w) := by
 obtain ⟨⟨cH, ho, cK, dv, dx, dw, fJ, fF⟩, an, hsl, cf, hn, K, ah, hk⟩ := hr.parts
 obtain ⟨ay, aw, ap, av, aA, aS, az, vo, am, ak, aE, aB, aD, ar, aq, aI, aC, aH⟩ := v
 obtain ⟨ro, ⟨li, lo, ll⟩, ⟨hi, mN, hl⟩⟩ := r
 dsimp only [Tg.kd, Tg.r, Tg.da, Tg.ks] at cH ho cK dv dx dw fJ fF an hsl cf hn ah hk
 obtain rfl : ay = 1 := cH
 subst ho cK dv dx dw hn
 have fL := I5 an
 have ke := I5 hsl
 have kf := I5 cf
 have HR := I5 ah
 have HK := I5 hk
 have ep := I5 an.1
 have kF := I5 hsl.1
 have kG := I5 cf.1
 have cF := Nat.le_trans an.2.1 an.2.2.1
 have cE := Nat.le_trans ah.1 ah.2.1
 unfold maxLen at cF cE
 clear an hsl cf ah hk hr
 let x0 := ((w.alloc (.cells #[.int .u8 (1 : Nat), .slice aw ap av, .slice aA ks.length az, .int .u8 vo, .bool am, .bool ak, .slice aE aB aD, .bool ar, .bool aq, .slice aI aC aH] 29)).alloc (.cells #[.bool false, .bool false, .slice none 0 0, .slice none 0 0, .slice none 0 0] 32))
 have B : Below w.heap.size w x0 := ((Below.refl _ _).alloc (Nat.le_refl _) _).alloc (by simp [x0, x0]) _
 have X : Hid (Box x0 w.heap.size 29 #[.int .u8 (1 : Nat), .slice aw ap av, .slice aA ks.length az, .int .u8 vo, .bool am, .bool ak, .slice aE aB aD, .bool ar, .bool aq, .slice aI aC aH]) := I5 ((Box.new _ _ _).alloc _)
 have Y : Hid (Box x0 (w.heap.size + 1) 32 #[.bool false, .bool false, .slice none 0 0, .slice none 0 0, .slice none 0 0]) := I5 (by
  have := Box.new (w.alloc (.cells #[.int .u8 (1 : Nat), .slice aw ap av, .slice aA ks.length az, .int .u8 vo, .bool am, .bool ak, .slice aE aB aD, .bool ar, .bool aq, .slice aI aC aH] 29)) 32 #[.bool false, .bool false, .slice none 0 0, .slice none 0 0, .slice none 0 0]
  simpa [x0] using this)
 show Calls _ _ #[.agg #[.int .u8 (1 : Nat), .slice aw ap av, .slice aA ks.length az, .int .u8 vo, .bool am, .bool ak, .slice aE aB aD, .bool ar, .bool aq, .slice aI aC aH]] _ _
 go_enter Tryz.func39, Tryz.ntmps39
 go_upto_region 1 with fail
 change Code.wp _ _ _ _ x0
 clear_value x0
 have q0 := X.out.cell 0 rfl
 have zD := Y.out.lt
 go_wp2_with fail
 refine (cG (fun b => w.heap.size + 2 ≤ b) ⟨#[42]⟩ (by decide) x0 (fun b hb => by show w.heap.size + 2 ≤ b; omega)).mono ?_
 rintro e x1 ⟨vA, rfl, rA, bx1⟩
 have RA := I5 rA
 clear rA q0
 replace X := I5 (X.out.after bx1)
 replace Y := I5 (Y.out.after bx1)
 replace B := B.trans (bx1.mono B.size)
 clear bx1
 simp only [SV.val]
 have c2 : Below x1.heap.size x1 (x1.alloc (.cells #[.bool vA.l, .bool vA.h, .slice vA.a1 vA.n1 vA.c1, .slice vA.a2 vA.n2 vA.c2, .slice vA.a3 vA.n3 vA.c3] 32)) := (Below.refl _ _).alloc (Nat.le_refl _) _
 have rW := I5 (sB x1 vA 32)
 have uj := B.size
 go_wp2_with fail
 skip
 replace X := I5 (X.out.after c2)
 replace Y := I5 (Y.out.after c2)
 replace RA := I5 (RA.out.after c2)
 replace B := B.trans (c2.mono B.size)
 have uk := Y.out.lt
 refine (gh (fun b => w.heap.size + 2 ≤ b) _ 1 1 _ [at1 starL] (x1.alloc (.cells #[.bool vA.l, .bool vA.h, .slice vA.a1 vA.n1 vA.c1, .slice vA.a2 vA.n2 vA.c2, .slice vA.a3 vA.n3 vA.c3] 32)) rW.out (by omega) rfl (fun i hi => match i, hi with | 0, _ => RA.out) (fun b hb => by have h1 := c2.size; show w.heap.size + 2 ≤ b; omega)).mono ?_
 rintro e x2 ⟨⟨tl, th, bR, bN, bP, bQ, bL, bO, gG, gE, gF⟩, rfl, rL, bx2⟩
 have RL := I5 rL
 clear rL RA rW
 replace B := B.trans (bx2.mono B.size)
 replace X := I5 (X.out.after bx2)
 replace Y := I5 (Y.out.after bx2)
 clear bx2 c2
 unfold SV.val
 go_wp2_with (refine ac (cells := #[.bool tl, .bool th, .slice bR bN bP, .slice bQ bL bO, .slice gG gE gF]) rfl 32 _ _ rfl Y.out (by rfl) (by rfl) rfl (by kernel_rfl) (by simp [Value.oneCell']) ?_; intro u9 X9 st9)
 have B9 := st9.below w.heap.size w (by omega) B
 have R9 : RdI (fun b => w.heap.size ≤ b) u9 ⟨tl, th, bR, bN, bP, bQ, bL, bO, gG, gE, gF⟩ (li [at1 starL]) := (RL.out.keep (w' := u9) (fun b hb => st9.other b (by have h1 : w.heap.size + 2 ≤ b := hb; omega))).mono (fun b hb => by have h1 : w.heap.size + 2 ≤ b := hb; show w.heap.size ≤ b; omega)
 exact bodyPost_ret (v := .agg #[.bool tl, .bool th, .slice bR bN bP, .slice bQ bL bO, .slice gG gE gF]) (ae rfl _ _ (by rfl) X9 Tryz.underlying32 rfl (by kernel_rfl)) rfl ⟨⟨tl, th, bR, bN, bP, bQ, bL, bO, gG, gE, gF⟩, rfl, R9, B9⟩
theorem ps {da : List UInt8} {ks : List Tg} {r : Rg} (v : TV) (w : World) (hr : RdT (fun _ => True) w v (.mk 5 da ks r)) (hd : da.length ≤ 5000) :
  Calls Tryz.prog 39 #[v.val] w (ValI (fun b => w.heap.size ≤ b) (li [at1 starL, at1 preL, at1 da]) w) := by
 obtain ⟨⟨cH, ho, cK, dv, dx, dw, fJ, fF⟩, an, hsl, cf, hn, K, ah, hk⟩ := hr.parts
 obtain ⟨ay, aw, ap, av, aA, aS, az, vo, am, ak, aE, aB, aD, ar, aq, aI, aC, aH⟩ := v
 obtain ⟨ro, ⟨li, lo, ll⟩, ⟨hi, mN, hl⟩⟩ := r
 dsimp only [Tg.kd, Tg.r, Tg.da, Tg.ks] at cH ho cK dv dx dw fJ fF an hsl cf hn ah hk
 obtain rfl : ay = 5 := cH
 subst ho cK dv dx dw hn
 have fL := I5 an
 have ke := I5 hsl
 have kf := I5 cf
 have HR := I5 ah
 have HK := I5 hk
 have ep := I5 an.1
 have kF := I5 hsl.1
 have kG := I5 cf.1
 have cF := Nat.le_trans an.2.1 an.2.2.1
 have cE := Nat.le_trans ah.1 ah.2.1
 unfold maxLen at cF cE
 clear an hsl cf ah hk hr
 have ig : ap ≤ 1000000 := by have := ep.out; omega
 let x0 := ((w.alloc (.cells #[.int .u8 (5 : Nat), .slice aw ap av, .slice aA ks.length az, .int .u8 vo, .bool am, .bool ak, .slice aE aB aD, .bool ar, .bool aq, .slice aI aC aH] 29)).alloc (.cells #[.bool false, .bool false, .slice none 0 0, .slice none 0 0, .slice none 0 0] 32))
 have B : Below w.heap.size w x0 := ((Below.refl _ _).alloc (Nat.le_refl _) _).alloc (by simp [x0, x0]) _
 have X : Hid (Box x0 w.heap.size 29 #[.int .u8 (5 : Nat), .slice aw ap av, .slice aA ks.length az, .int .u8 vo, .bool am, .bool ak, .slice aE aB aD, .bool ar, .bool aq, .slice aI aC aH]) := I5 ((Box.new _ _ _).alloc _)
 have Y : Hid (Box x0 (w.heap.size + 1) 32 #[.bool false, .bool false, .slice none 0 0, .slice none 0 0, .slice none 0 0]) := I5 (by
  have := Box.new (w.alloc (.cells #[.int .u8 (5 : Nat), .slice aw ap av, .slice aA ks.length az, .int .u8 vo, .bool am, .bool ak, .slice aE aB aD, .bool ar, .bool aq, .slice aI aC aH] 29)) 32 #[.bool false, .bool false, .slice none 0 0, .slice none 0 0, .slice none 0 0]
  simpa [x0] using this)
 show Calls _ _ #[.agg #[.int .u8 (5 : Nat), .slice aw ap av, .slice aA ks.length az, .int .u8 vo, .bool am, .bool ak, .slice aE aB aD, .bool ar, .bool aq, .slice aI aC aH]] _ _
 go_enter Tryz.func39, Tryz.ntmps39
 go_upto_region 1 with fail
 change Code.wp _ _ _ _ x0
 clear_value x0
 have q0 := X.out.cell 0 rfl
 go_upto_region 8 with fail
 clear q0
 have aF : Keeps (fun w' => Box w' w.heap.size 29 #[.int .u8 (5 : Nat), .slice aw ap av, .slice aA ks.length az, .int .u8 vo, .bool am, .bool ak, .slice aE aB aD, .bool ar, .bool aq, .slice aI aC aH] ∧ Sl w' aw ap av da ∧ Box w' (w.heap.size + 1) 32 #[.bool false, .bool false, .slice none 0 0, .slice none 0 0, .slice none 0 0] ∧ Below w.heap.size w w') := fun _ _ h b => ⟨h.1.after b, h.2.1.after b, h.2.2.1.after b, h.2.2.2.trans (b.mono h.2.2.2.size)⟩
 refine aX (w := x0) [8] (fun w' => Box w' w.heap.size 29 #[.int .u8 (5 : Nat), .slice aw ap av, .slice aA ks.length az, .int .u8 vo, .bool am, .bool ak, .slice aE aB aD, .bool ar, .bool aq, .slice aI aC aH] ∧ Sl w' aw ap av da ∧ Box w' (w.heap.size + 1) 32 #[.bool false, .bool false, .slice none 0 0, .slice none 0 0, .slice none 0 0] ∧ Below w.heap.size w w') rfl (aF _ _ ⟨X.out, fL.out.after B, Y.out, B⟩ (Below.refl _ _).drew) ?_
 refine ag 2 aF rfl (by kernel_rfl) (by kernel_rfl) (by kernel_rfl) (by kernel_rfl) rfl (fun _ _ _ _ h => h) (.pointer (some ⟨w.heap.size, 1, none⟩)) (fun w' h => by simp [go_sem]) ?_
 simp only [Act.put, I2, I3, I4]
 refine ag 3 aF rfl (by kernel_rfl) (by kernel_rfl) (by kernel_rfl) (by kernel_rfl) rfl (fun _ _ _ _ h => h) (.slice aw ap av) (fun w' h => by simp [go_sem, h.1.cell 1 rfl]) ?_
 simp only [Act.put, I2, I3, I4]
 refine aN 0 rfl (by kernel_rfl) (by kernel_rfl) rfl ?_
 intro z1 ez1 sz1
 have lz1 := sz1.2.2.1.lt
 refine aT 71 #[.string ⟨#[42]⟩] (by simp [go_sem]) _ (cG (fun b => w.heap.size + 2 ≤ b) ⟨#[42]⟩ (by decide) z1 (fun b hb => by show w.heap.size + 2 ≤ b; omega)) ?_
 rintro e z2 ⟨vA, rfl, rA, cz2⟩
 refine ⟨_, rfl, aF _ _ sz1 cz2, ?_⟩
 simp only [Act.put, I2, I3, I4]
 refine aN 1 rfl (by kernel_rfl) (by kernel_rfl) rfl ?_
 intro z3 ez3 sz3
 have lz3 := sz3.2.2.1.lt
 replace rA := rA.after ez3
 refine aT 71 #[.string ⟨#[112, 114, 101, 102, 105, 120]⟩] (by simp [go_sem]) _ (cG (fun b => w.heap.size + 2 ≤ b) ⟨#[112, 114, 101, 102, 105, 120]⟩ (by decide) z3 (fun b hb => by show w.heap.size + 2 ≤ b; omega)) ?_
 rintro e z4 ⟨vD, rfl, rD, cz4⟩
 replace rA := rA.after cz4
 refine ⟨_, rfl, aF _ _ sz3 cz4, ?_⟩
 simp only [Act.put, I2, I3, I4]
 refine aN 4 rfl (by kernel_rfl) (by kernel_rfl) rfl ?_
 intro z5 ez5 sz5
 have lz5 := sz5.2.2.1.lt
 replace rA := rA.after ez5
 replace rD := rD.after ez5
 refine aT 53 #[.slice aw ap av] (by simp [go_sem]) _ (dq aw ap av da z5 sz5.2.1 ig) ?_
 rintro e z6 ⟨v4, rfl, o4, cz6⟩
 replace rA := rA.after cz6
 replace rD := rD.after cz6
 obtain ⟨p, m, q, rfl, hsl, nN⟩ := OwnB.parts o4
 have rE : RdI (fun b => w.heap.size + 2 ≤ b) z6 ⟨false, false, none, 0, 0, p, m, q, none, 0, 0⟩ (at1 da) := de hsl (nN.imp id fun h b o s e => by have h1 := h b o s e; show w.heap.size + 2 ≤ b; omega)
 refine ⟨_, rfl, aF _ _ sz5 cz6, ?_⟩
 simp only [Act.put, I2, I3, I4]
 refine bG 5 aF rfl (by kernel_rfl) (by kernel_rfl) (by kernel_rfl) (by kernel_rfl) rfl (fun _ _ _ _ h => h) (.agg #[.bool false, .bool false, .slice none 0 0, .slice p m q, .slice none 0 0]) (fun w' => by simp [go_sem]) ?_
 simp only [Act.put, I2, I3, I4]
 refine aN 6 rfl (by kernel_rfl) (by kernel_rfl) rfl ?_
 intro z7 ez7 sz7
 have lz7 := sz7.2.2.1.lt
 replace rA := rA.after ez7
 replace rD := rD.after ez7
 replace rE := rE.after ez7
 refine cp (.slice (some ⟨z7.heap.size, 0, none⟩) 3 3) (z7.alloc (.cells #[.bool vA.l, .bool vA.h, .slice vA.a1 vA.n1 vA.c1, .slice vA.a2 vA.n2 vA.c2, .slice vA.a3 vA.n3 vA.c3, .bool vD.l, .bool vD.h, .slice vD.a1 vD.n1 vD.c1, .slice vD.a2 vD.n2 vD.c2, .slice vD.a3 vD.n3 vD.c3, .bool false, .bool false, .slice none 0 0, .slice p m q, .slice none 0 0] 32)) (by simp [go_sem, SV.val]) ?_
 have cz8 : Below z7.heap.size z7 (z7.alloc (.cells #[.bool vA.l, .bool vA.h, .slice vA.a1 vA.n1 vA.c1, .slice vA.a2 vA.n2 vA.c2, .slice vA.a3 vA.n3 vA.c3, .bool vD.l, .bool vD.h, .slice vD.a1 vD.n1 vD.c1, .slice vD.a2 vD.n2 vD.c2, .slice vD.a3 vD.n3 vD.c3, .bool false, .bool false, .slice none 0 0, .slice p m q, .slice none 0 0] 32)) := (Below.refl _ _).alloc (Nat.le_refl _) _
 have rW := nt z7 vA vD (⟨false, false, none, 0, 0, p, m, q, none, 0, 0⟩ : SV) 32
 replace rA := rA.after cz8
 replace rD := rD.after cz8
 replace rE := rE.after cz8
 refine ⟨aF _ _ sz7 cz8, ?_⟩
 simp only [Act.put, I2, I3, I4]
 generalize (z7.alloc (.cells #[.bool vA.l, .bool vA.h, .slice vA.a1 vA.n1 vA.c1, .slice vA.a2 vA.n2 vA.c2, .slice vA.a3 vA.n3 vA.c3, .bool vD.l, .bool vD.h, .slice vD.a1 vD.n1 vD.c1, .slice vD.a2 vD.n2 vD.c2, .slice vD.a3 vD.n3 vD.c3, .bool false, .bool false, .slice none 0 0, .slice p m q, .slice none 0 0] 32)) = y9 at *
 refine aN 7 rfl (by kernel_rfl) (by kernel_rfl) rfl ?_
 intro z9 ez9 sz9
 have lz9 := sz9.2.2.1.lt
 replace rA := rA.after ez9
 replace rD := rD.after ez9
 replace rE := rE.after ez9
 replace rW := rW.after ez9
 refine aT 70 #[.slice (some ⟨_, 0, none⟩) 3 3] (by simp [go_sem]) _ (gh (fun b => w.heap.size + 2 ≤ b) _ 3 3 _ [at1 starL, at1 preL, at1 da] z9 rW (by omega) rfl (fun i hi => match i, hi with | 0, _ => rA | 1, _ => rD | 2, _ => rE) (fun b hb => by show w.heap.size + 2 ≤ b; omega)) ?_
 rintro e z10 ⟨vL, rfl, rL, cz10⟩
 replace rA := rA.after cz10
 replace rD := rD.after cz10
 replace rE := rE.after cz10
 refine ⟨_, rfl, aF _ _ sz9 cz10, ?_⟩
 simp only [Act.put, I2, I3, I4]
 refine dr 8 rfl (by kernel_rfl) (by kernel_rfl) rfl ?_
 intro zz bz sz
 replace rL := rL.after bz
 obtain ⟨tl, th, bR, bN, bP, bQ, bL, bO, gG, gE, gF⟩ := vL
 refine dW 32 _ _ rfl sz.2.2.1 (by rfl) (by rfl) rfl (by kernel_rfl) (by simp [Value.oneCell']) (cells := #[.bool tl, .bool th, .slice bR bN bP, .slice bQ bL bO, .slice gG gE gF]) ?_
 intro zx Xx stx
 have RLx := rL.keep (w' := zx) (fun b hb => stx.other b (by have h1 : w.heap.size + 2 ≤ b := hb; omega))
 have Bx := stx.below w.heap.size w (by omega) sz.2.2.2
 simp only [Act.put, I2, I3, I4]
 refine cB rfl (fun w9 b9 _ => ?_)
 have B9 := Bx.trans (b9.mono Bx.size)
 have X9 := Xx.after b9
 have R9 := RLx.after b9
 go_wp2_with fail
 exact bodyPost_ret (v := .agg #[.bool tl, .bool th, .slice bR bN bP, .slice bQ bL bO, .slice gG gE gF]) (ae rfl _ _ (by rfl) X9 Tryz.underlying32 rfl (by kernel_rfl)) rfl ⟨⟨tl, th, bR, bN, bP, bQ, bL, bO, gG, gE, gF⟩, rfl, R9.mono (fun b hb => by have h1 : w.heap.size + 2 ≤ b := hb; show w.heap.size ≤ b; omega), B9⟩
theorem pr {da : List UInt8} {ks : List Tg} {r : Rg} (v : TV) (w : World) (hr : RdT (fun _ => True) w v (.mk 6 da ks r)) (ja : r.lo.att.length ≤ 5000) (jx : r.hi.att.length ≤ 5000) (ho1 : 1 ≤ r.o ∧ r.o ≤ 5) :
  Calls Tryz.prog 39 #[v.val] w (ValI (fun b => w.heap.size ≤ b) (ranV r) w) := by
 obtain ⟨⟨cH, ho, cK, dv, dx, dw, fJ, fF⟩, an, hsl, cf, hn, K, ah, hk⟩ := hr.parts
 obtain ⟨ay, aw, ap, av, aA, aS, az, vo, am, ak, aE, aB, aD, ar, aq, aI, aC, aH⟩ := v
 obtain ⟨ro, ⟨li, lo, ll⟩, ⟨hi, mN, hl⟩⟩ := r
 dsimp only [Tg.kd, Tg.r, Tg.da, Tg.ks] at cH ho cK dv dx dw fJ fF an hsl cf hn ah hk
 obtain rfl : ay = 6 := cH
 subst ho cK dv dx dw hn
 have fL := I5 an
 have ke := I5 hsl
 have kf := I5 cf
 have HR := I5 ah
 have HK := I5 hk
 have ep := I5 an.1
 have kF := I5 hsl.1
 have kG := I5 cf.1
 have cF := Nat.le_trans an.2.1 an.2.2.1
 have cE := Nat.le_trans ah.1 ah.2.1
 unfold maxLen at cF cE
 clear an hsl cf ah hk hr
 have mn : aB ≤ 1000000 := by have := kF.out; dsimp only at ja; omega
 have Hn : aC ≤ 1000000 := by have := kG.out; dsimp only at jx; omega
 have Dt : vo = 1 ∨ vo = 2 ∨ vo = 3 ∨ vo = 4 ∨ vo = 5 := by dsimp only at ho1; omega
 clear ja jx ho1
 let x0 := ((w.alloc (.cells #[.int .u8 (6 : Nat), .slice aw ap av, .slice aA ks.length az, .int .u8 vo, .bool am, .bool ak, .slice aE aB aD, .bool ar, .bool aq, .slice aI aC aH] 29)).alloc (.cells #[.bool false, .bool false, .slice none 0 0, .slice none 0 0, .slice none 0 0] 32))
 have B : Below w.heap.size w x0 := ((Below.refl _ _).alloc (Nat.le_refl _) _).alloc (by simp [x0, x0]) _
 have X : Hid (Box x0 w.heap.size 29 #[.int .u8 (6 : Nat), .slice aw ap av, .slice aA ks.length az, .int .u8 vo, .bool am, .bool ak, .slice aE aB aD, .bool ar, .bool aq, .slice aI aC aH]) := I5 ((Box.new _ _ _).alloc _)
 have Y : Hid (Box x0 (w.heap.size + 1) 32 #[.bool false, .bool false, .slice none 0 0, .slice none 0 0, .slice none 0 0]) := I5 (by
  have := Box.new (w.alloc (.cells #[.int .u8 (6 : Nat), .slice aw ap av, .slice aA ks.length az, .int .u8 vo, .bool am, .bool ak, .slice aE aB aD, .bool ar, .bool aq, .slice aI aC aH] 29)) 32 #[.bool false, .bool false, .slice none 0 0, .slice none 0 0, .slice none 0 0]
  simpa [x0] using this)
 show Calls _ _ #[.agg #[.int .u8 (6 : Nat), .slice aw ap av, .slice aA ks.length az, .int .u8 vo, .bool am, .bool ak, .slice aE aB aD, .bool ar, .bool aq, .slice aI aC aH]] _ _
 go_enter Tryz.func39, Tryz.ntmps39
 go_upto_region 1 with fail
 change Code.wp _ _ _ _ x0
 clear_value x0
 have q0 := X.out.cell 0 rfl
 go_upto_region 10 with fail
 clear q0
 have aF : Keeps (fun w' => Box w' w.heap.size 29 #[.int .u8 (6 : Nat), .slice aw ap av, .slice aA ks.length az, .int .u8 vo, .bool am, .bool ak, .slice aE aB aD, .bool ar, .bool aq, .slice aI aC aH] ∧ Box w' (w.heap.size + 1) 32 #[.bool false, .bool false, .slice none 0 0, .slice none 0 0, .slice none 0 0] ∧ Below w.heap.size w w') := fun _ _ h b => ⟨h.1.after b, h.2.1.after b, h.2.2.trans (b.mono h.2.2.size)⟩
 refine aX (w := x0) [] (fun w' => Box w' w.heap.size 29 #[.int .u8 (6 : Nat), .slice aw ap av, .slice aA ks.length az, .int .u8 vo, .bool am, .bool ak, .slice aE aB aD, .bool ar, .bool aq, .slice aI aC aH] ∧ Box w' (w.heap.size + 1) 32 #[.bool false, .bool false, .slice none 0 0, .slice none 0 0, .slice none 0 0] ∧ Below w.heap.size w w') rfl (aF _ _ ⟨X.out, Y.out, B⟩ (Below.refl _ _).drew) ?_
 refine ag 3 aF rfl (by kernel_rfl) (by kernel_rfl) (by kernel_rfl) (by kernel_rfl) rfl (fun _ _ _ _ h => h) (.pointer (some ⟨w.heap.size, 3, none⟩)) (fun w' h => by simp [go_sem]) ?_
 simp only [Act.put, I2, I3, I4]
 refine ag 4 aF rfl (by kernel_rfl) (by kernel_rfl) (by kernel_rfl) (by kernel_rfl) rfl (fun _ _ _ _ h => h) (.pointer (some ⟨w.heap.size, 3, none⟩)) (fun w' h => by simp [go_sem]) ?_
 simp only [Act.put, I2, I3, I4]
 refine ag 5 aF rfl (by kernel_rfl) (by kernel_rfl) (by kernel_rfl) (by kernel_rfl) rfl (fun _ _ _ _ h => h) (.int .u8 vo) (fun w' h => by simp [go_sem, h.1.cell 3 rfl]) ?_
 simp only [Act.put, I2, I3, I4]
 refine aN 0 rfl (by kernel_rfl) (by kernel_rfl) rfl ?_
 intro z1 ez1 sz1
 have lz1 := sz1.2.1.lt
 refine aT 71 #[.string ⟨#[42]⟩] (by simp [go_sem]) _ (cG (fun b => w.heap.size + 2 ≤ b) ⟨#[42]⟩ (by decide) z1 (fun b hb => by show w.heap.size + 2 ≤ b; omega)) ?_
 rintro e z2 ⟨vA, rfl, rA, cz2⟩
 refine ⟨_, rfl, aF _ _ sz1 cz2, ?_⟩
 simp only [Act.put, I2, I3, I4]
 refine aN 1 rfl (by kernel_rfl) (by kernel_rfl) rfl ?_
 intro z3 ez3 sz3
 have lz3 := sz3.2.1.lt
 replace rA := rA.after ez3
 refine aT 71 #[.string ⟨#[114, 97, 110, 103, 101]⟩] (by simp [go_sem]) _ (cG (fun b => w.heap.size + 2 ≤ b) ⟨#[114, 97, 110, 103, 101]⟩ (by decide) z3 (fun b hb => by show w.heap.size + 2 ≤ b; omega)) ?_
 rintro e z4 ⟨vD, rfl, rD, cz4⟩
 replace rA := rA.after cz4
 refine ⟨_, rfl, aF _ _ sz3 cz4, ?_⟩
 simp only [Act.put, I2, I3, I4]
 refine aN 2 rfl (by kernel_rfl) (by kernel_rfl) rfl ?_
 intro z5 ez5 sz5
 have lz5 := sz5.2.1.lt
 replace rA := rA.after ez5
 replace rD := rD.after ez5
 refine aT 72 #[] (by simp [go_sem]) _ (uc z5) ?_
 rintro e z6 ⟨rfl, cz6⟩
 replace rA := rA.after cz6
 replace rD := rD.after cz6
 refine ⟨_, rfl, aF _ _ sz5 cz6, ?_⟩
 simp only [Act.put, I2, I3, I4]
 refine bG 6 aF rfl (by kernel_rfl) (by kernel_rfl) (by kernel_rfl) (by kernel_rfl) rfl (fun _ _ _ _ h => h) (.string ⟨(nameO vo).toArray⟩) (fun w' => by have h9 := rG vo Dt w'; simpa [go_sem] using h9) ?_
 simp only [Act.put, I2, I3, I4]
 refine aN 7 rfl (by kernel_rfl) (by kernel_rfl) rfl ?_
 intro z7 ez7 sz7
 have lz7 := sz7.2.1.lt
 replace rA := rA.after ez7
 replace rD := rD.after ez7
 refine aT 71 #[.string ⟨(nameO vo).toArray⟩] (by simp [go_sem]) _ (cG (fun b => w.heap.size + 2 ≤ b) ⟨(nameO vo).toArray⟩ (by rcases Dt with rfl | rfl | rfl | rfl | rfl <;> decide) z7 (fun b hb => by show w.heap.size + 2 ≤ b; omega)) ?_
 rintro e z8 ⟨vE, rfl, rE, cz8⟩
 replace rA := rA.after cz8
 replace rD := rD.after cz8
 refine ⟨_, rfl, aF _ _ sz7 cz8, ?_⟩
 simp only [Act.put, I2, I3, I4]
 refine aN 8 rfl (by kernel_rfl) (by kernel_rfl) rfl ?_
 intro z9 ez9 sz9
 have lz9 := sz9.2.1.lt
 replace rA := rA.after ez9
 replace rD := rD.after ez9
 replace rE := rE.after ez9
 replace rA := rA.there
 replace rD := rD.there
 replace rE := rE.there
 refine cp (.slice (some ⟨z9.heap.size, 0, none⟩) 3 3) (z9.alloc (.cells #[.bool vA.l, .bool vA.h, .slice vA.a1 vA.n1 vA.c1, .slice vA.a2 vA.n2 vA.c2, .slice vA.a3 vA.n3 vA.c3, .bool vD.l, .bool vD.h, .slice vD.a1 vD.n1 vD.c1, .slice vD.a2 vD.n2 vD.c2, .slice vD.a3 vD.n3 vD.c3, .bool vE.l, .bool vE.h, .slice vE.a1 vE.n1 vE.c1, .slice vE.a2 vE.n2 vE.c2, .slice vE.a3 vE.n3 vE.c3] 32)) (by simp [go_sem, SV.val]) ?_
 have c4 : Below z9.heap.size z9 (z9.alloc (.cells #[.bool vA.l, .bool vA.h, .slice vA.a1 vA.n1 vA.c1, .slice vA.a2 vA.n2 vA.c2, .slice vA.a3 vA.n3 vA.c3, .bool vD.l, .bool vD.h, .slice vD.a1 vD.n1 vD.c1, .slice vD.a2 vD.n2 vD.c2, .slice vD.a3 vD.n3 vD.c3, .bool vE.l, .bool vE.h, .slice vE.a1 vE.n1 vE.c1, .slice vE.a2 vE.n2 vE.c2, .slice vE.a3 vE.n3 vE.c3] 32)) := (Below.refl _ _).alloc (Nat.le_refl _) _
 have o4 : OwnG (z9.alloc (.cells #[.bool vA.l, .bool vA.h, .slice vA.a1 vA.n1 vA.c1, .slice vA.a2 vA.n2 vA.c2, .slice vA.a3 vA.n3 vA.c3, .bool vD.l, .bool vD.h, .slice vD.a1 vD.n1 vD.c1, .slice vD.a2 vD.n2 vD.c2, .slice vD.a3 vD.n3 vD.c3, .bool vE.l, .bool vE.h, .slice vE.a1 vE.n1 vE.c1, .slice vE.a2 vE.n2 vE.c2, .slice vE.a3 vE.n3 vE.c3] 32)) (w.heap.size + 2) 5 (.slice (some ⟨z9.heap.size, 0, none⟩) 3 3) 3 (newsK (fun i => if i = 0 then vA else if i = 1 then vD else vE) 3) := by
  have := OwnG.new z9 (w.heap.size + 2) 5 (by omega) #[.bool vA.l, .bool vA.h, .slice vA.a1 vA.n1 vA.c1, .slice vA.a2 vA.n2 vA.c2, .slice vA.a3 vA.n3 vA.c3, .bool vD.l, .bool vD.h, .slice vD.a1 vD.n1 vD.c1, .slice vD.a2 vD.n2 vD.c2, .slice vD.a3 vD.n3 vD.c3, .bool vE.l, .bool vE.h, .slice vE.a1 vE.n1 vE.c1, .slice vE.a2 vE.n2 vE.c2, .slice vE.a3 vE.n3 vE.c3] 32 3 3 (Nat.le_refl _) (by unfold maxLen; omega) rfl
  exact this
 refine ⟨aF _ _ sz9 c4, ?_⟩
 simp only [Act.put, I2, I3, I4]
 refine bG 9 aF rfl (by kernel_rfl) (by kernel_rfl) (by kernel_rfl) (by kernel_rfl) rfl (fun _ _ _ _ h => h) (.slice (some ⟨z9.heap.size, 0, none⟩) 3 3) (fun w' => by simp [go_sem]) ?_
 simp only [Act.put, I2, I3, I4]
 refine eK (by kernel_rfl) ?_
 intro z99 b5 s5
 have O := I5 (o4.after b5)
 have KD : Hid (∀ i (hi : i < ([at1 starL, at1 ranL, at1 (nameO vo)]).length), RdI (okO (fun b => w.heap.size + 2 ≤ b) (.slice (some ⟨z9.heap.size, 0, none⟩) 3 3)) z99 ((fun i => if i = 0 then vA else if i = 1 then vD else vE) i) ([at1 starL, at1 ranL, at1 (nameO vo)])[i]) := I5 (fun i hi => match i, hi with
  | 0, _ => ((rA.after c4).after b5).mono (fun b hb => ⟨hb.1, fun e => by simp [Value.ownBlock] at e; have := hb.2; omega⟩)
  | 1, _ => ((rD.after c4).after b5).mono (fun b hb => ⟨hb.1, fun e => by simp [Value.ownBlock] at e; have := hb.2; omega⟩)
  | 2, _ => ((rE.after c4).after b5).mono (fun b hb => ⟨hb.1, fun e => by simp [Value.ownBlock] at e; have := hb.2; omega⟩))
 have X5 := I5 s5.1
 have Y5 := I5 s5.2.1
 have B5 := s5.2.2
 generalize (Value.slice (some ⟨z9.heap.size, 0, none⟩) 3 3) = acc0 at *
 generalize (fun i => if i = 0 then vA else if i = 1 then vD else vE) = K3 at *
 clear aF o4 rA rD rE c4 b5 s5 B X Y ez1 sz1 lz1 ez3 sz3 lz3 ez5 sz5 lz5 ez7 sz7 lz7 ez9 sz9 lz9 cz2 cz4 cz6 cz8
 have B := B5
 clear B5
 go_wp2_with (refine ai rfl 25 _ rfl _ 4 rfl [.bool am, .bool ak, .slice aE aB aD] _ (Box.midR X5.out 4 [.bool am, .bool ak, .slice aE aB aD] rfl) Tryz.underlying25 rfl (by kernel_rfl) ?_)
 refine (mF am ak aE aB aD ll 103 z99 (ke.out.after B) mn).mono ?_
 rintro e b1w ⟨bv1, rfl, ⟨BK1, bo1, bk1⟩, bb1⟩
 have p7 := I5 (O.out.lt)
 replace O := I5 (O.out.after bb1)
 replace KD := I5 (fun i hi => (KD.out i hi).after bb1)
 have EI := B.size
 have DS := Y5.out.lt
 have BO1 := I5 bo1
 have BL1 := I5 (bo1.lt)
 have BKK1 := I5 bk1
 have Ch := bb1.size
 have Ei : (bnd ⟨am, ak, ll⟩ 103).length ≤ 2 := by unfold bnd; split <;> simp
 replace X5 := I5 (X5.out.after bb1)
 replace Y5 := I5 (Y5.out.after bb1)
 replace B := B.trans (bb1.mono B.size)
 have En : z99.heap.size ≤ b1w.heap.size := bb1.size
 clear bb1 bo1 bk1
 have Hw := p7.out
 go_upto_region 12 with (refine bw rfl _ _ rfl rfl O.out rfl BO1.out.srcK (by omega) (by omega) ?_; intro av1 aw1 ao1 ag1 dV; rw [gg] at ao1)
 have KD1 : Hid (∀ i (hi : i < ([at1 starL, at1 ranL, at1 (nameO vo)] ++ bnd ⟨am, ak, ll⟩ 103).length), RdI (okO (fun b => w.heap.size + 2 ≤ b) av1) aw1 _ ([at1 starL, at1 ranL, at1 (nameO vo)] ++ bnd ⟨am, ak, ll⟩ 103)[i]) := I5 (jF (n := 3) (by simp <;> omega) KD.out (fun i hi => (BKK1.out i hi).mono (fun b hb => ⟨by have h1 : z99.heap.size ≤ b := hb.1; show w.heap.size + 2 ≤ b; omega, fun e => by have h1 := p7.out b e; have h2 : z99.heap.size ≤ b := hb.1; omega⟩)) ag1 dV)
 have OO1 := I5 ao1
 have Eu := ag1.size
 replace B := bX w.heap.size (by omega) (by omega) O.out ag1 B
 replace X5 := I5 (X5.out.grown ag1 (fun k hk => by have := p7.out k hk; omega))
 replace Y5 := I5 (Y5.out.grown ag1 (fun k hk => by have := p7.out k hk; omega))
 clear O KD ag1 ao1 BO1 BKK1 dV
 go_wp2_with (refine ai rfl 25 _ rfl _ 7 rfl [.bool ar, .bool aq, .slice aI aC aH] _ (Box.midR X5.out 7 [.bool ar, .bool aq, .slice aI aC aH] rfl) Tryz.underlying25 rfl (by kernel_rfl) ?_)
 refine (mF ar aq aI aC aH hl 108 aw1 (kf.out.after B) Hn).mono ?_
 rintro e b2w ⟨bv2, rfl, ⟨BK2, bo2, bk2⟩, bb2⟩
 have rI := I5 (OO1.out.lt)
 replace OO1 := I5 (OO1.out.after bb2)
 replace KD1 := I5 (fun i hi => (KD1.out i hi).after bb2)
 have EH := B.size
 have Au := Y5.out.lt
 have BO2 := I5 bo2
 have BL2 := I5 (bo2.lt)
 have BKK2 := I5 bk2
 have G9 := bb2.size
 have Eh : (bnd ⟨ar, aq, hl⟩ 108).length ≤ 2 := by unfold bnd; split <;> simp
 replace X5 := I5 (X5.out.after bb2)
 replace Y5 := I5 (Y5.out.after bb2)
 replace B := B.trans (bb2.mono B.size)
 have Em : aw1.heap.size ≤ b2w.heap.size := bb2.size
 clear bb2 bo2 bk2
 obtain ⟨n2, gk⟩ : ∃ n2, n2 = (3 + (bnd ⟨am, ak, ll⟩ 103).length) + (bnd ⟨ar, aq, hl⟩ 108).length := ⟨_, rfl⟩
 go_wp2_with (refine bw rfl _ _ rfl rfl OO1.out rfl BO2.out.srcK (by omega) (by omega) ?_; intro av2 aw2 ao2 ag2 dN; rw [gg] at ao2)
 have KD2 : Hid (∀ i (hi : i < (([at1 starL, at1 ranL, at1 (nameO vo)] ++ bnd ⟨am, ak, ll⟩ 103) ++ bnd ⟨ar, aq, hl⟩ 108).length), RdI (okO (fun b => w.heap.size + 2 ≤ b) av2) aw2 _ (([at1 starL, at1 ranL, at1 (nameO vo)] ++ bnd ⟨am, ak, ll⟩ 103) ++ bnd ⟨ar, aq, hl⟩ 108)[i]) := I5 (jF (n := 3 + (bnd ⟨am, ak, ll⟩ 103).length) (by simp <;> omega) KD1.out (fun i hi => (BKK2.out i hi).mono (fun b hb => ⟨by have h1 : aw1.heap.size ≤ b := hb.1; show w.heap.size + 2 ≤ b; omega, fun e => by have h1 := rI.out b e; have h2 : aw1.heap.size ≤ b := hb.1; omega⟩)) ag2 dN)
 have OO2 := I5 ao2
 have Et := ag2.size
 replace B := bX w.heap.size (by omega) (by omega) OO1.out ag2 B
 replace X5 := I5 (X5.out.grown ag2 (fun k hk => by have := rI.out k hk; omega))
 replace Y5 := I5 (Y5.out.grown ag2 (fun k hk => by have := rI.out k hk; omega))
 obtain ⟨ra, rc, EJ, ah, jb⟩ := OO2.out.row
 subst EJ
 refine (gh (fun b => w.heap.size + 2 ≤ b) ra _ rc _ (([at1 starL, at1 ranL, at1 (nameO vo)] ++ bnd ⟨am, ak, ll⟩ 103) ++ bnd ⟨ar, aq, hl⟩ 108) aw2 ah (by omega) (by simp; omega) (fun i hi => (KD2.out i hi).mono (fun b h => h.1)) (fun b hb => by have h9 := Y5.out.lt; show w.heap.size + 2 ≤ b; omega)).mono ?_
 rintro e x9 ⟨⟨tl, th, bR, bN, bP, bQ, bL, bO, gG, gE, gF⟩, rfl, rL, bx9⟩
 have RL := I5 rL
 clear rL
 replace Y5 := I5 (Y5.out.after bx9)
 replace B := B.trans (bx9.mono B.size)
 clear bx9
 have Y := Y5
 clear Y5
 unfold SV.val
 go_wp2_with (refine ac (cells := #[.bool tl, .bool th, .slice bR bN bP, .slice bQ bL bO, .slice gG gE gF]) rfl 32 _ _ rfl Y.out (by rfl) (by rfl) rfl (by kernel_rfl) (by simp [Value.oneCell']) ?_; intro u9 X9 st9)
 have uk := Y.out.lt
 have B9 := st9.below w.heap.size w (by omega) B
 have R9 : RdI (fun b => w.heap.size ≤ b) u9 ⟨tl, th, bR, bN, bP, bQ, bL, bO, gG, gE, gF⟩ (ranV ⟨vo, ⟨am, ak, ll⟩, ⟨ar, aq, hl⟩⟩) := (RL.out.keep (w' := u9) (fun b hb => st9.other b (by have h1 : w.heap.size + 2 ≤ b := hb; omega))).mono (fun b hb => by have h1 : w.heap.size + 2 ≤ b := hb; show w.heap.size ≤ b; omega)
 exact bodyPost_ret (v := .agg #[.bool tl, .bool th, .slice bR bN bP, .slice bQ bL bO, .slice gG gE gF]) (ae rfl _ _ (by rfl) X9 Tryz.underlying32 rfl (by kernel_rfl)) rfl ⟨⟨tl, th, bR, bN, bP, bQ, bL, bO, gG, gE, gF⟩, rfl, R9, B9⟩
end Go.Proofs.YtmmkaclmgnpplaaGreatDoor

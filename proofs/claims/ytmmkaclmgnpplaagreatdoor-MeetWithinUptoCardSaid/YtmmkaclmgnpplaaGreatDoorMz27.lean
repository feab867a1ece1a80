import Derived.Test.YtmmkaclmgnpplaaGreatDoorMz26
set_option maxRecDepth 100000
set_option maxHeartbeats 64000000
set_option linter.unusedSimpArgs false
set_option linter.unusedVariables false
namespace Go.Proofs.YtmmkaclmgnpplaaGreatDoor
open Go.RowKit
theorem pu {da : List UInt8} {ks : List Tg} {r : Rg} (v : TV) (w : World) (hr : RdT (fun _ => True) w v (.mk 3 da ks r)) (ih : ∀ x ∈ ks, ∀ (v : TV) (w : World), RdT (fun _ => True) w v x → Calls Tryz.prog 39 #[v.val] w (ValI (fun b => w.heap.size ≤ b) x.value w)) (fy : ks.length ≤ 700) :
    Calls Tryz.prog 39 #[v.val] w (ValI (fun b => w.heap.size ≤ b) (li (([] : List Sx) ++ Tg.valueL ks)) w) := by
  obtain ⟨⟨cH, ho, cK, dv, dx, dw, fJ, fF⟩, an, hsl, cf, hn, K, ah, hk⟩ := hr.parts
  obtain ⟨ay, aw, ap, av, aA, aS, az, vo, am, ak, aE, aB, aD, ar, aq, aI, aC, aH⟩ := v
  obtain ⟨ro, ⟨li, lo, ll⟩, ⟨hi, mN, hl⟩⟩ := r
  dsimp only [Tg.kd, Tg.r, Tg.da, Tg.ks] at cH ho cK dv dx dw fJ fF an hsl cf hn ah hk
  obtain rfl : ay = 3 := cH
  subst ho cK dv dx dw hn
  have fL := I5 an
  have ke := I5 hsl
  have kf := I5 cf
  have HR := I5 ah
  have HK := I5 hk
  have ep := I5 an.1
  have kF := I5 hsl.1
  have kG := I5 cf.1
  have cF := Nat.le_trans an.2.1 an.2.2.1
  have cE := Nat.le_trans ah.1 ah.2.1
  unfold maxLen at cF cE
  clear an hsl cf ah hk hr
  have IH := I5 ih
  clear ih
  let x0 := ((w.alloc (.cells #[.int .u8 3, .slice aw ap av, .slice aA ks.length az, .int .u8 vo, .bool am, .bool ak, .slice aE aB aD, .bool ar, .bool aq, .slice aI aC aH] 29)).alloc (.cells #[.bool false, .bool false, .slice none 0 0, .slice none 0 0, .slice none 0 0] 32))
  have B : Below w.heap.size w x0 := ((Below.refl _ _).alloc (Nat.le_refl _) _).alloc (by simp [x0, x0]) _
  have X : Hid (Box x0 w.heap.size 29 #[.int .u8 3, .slice aw ap av, .slice aA ks.length az, .int .u8 vo, .bool am, .bool ak, .slice aE aB aD, .bool ar, .bool aq, .slice aI aC aH]) := I5 ((Box.new _ _ _).alloc _)
  have Y : Hid (Box x0 (w.heap.size + 1) 32 #[.bool false, .bool false, .slice none 0 0, .slice none 0 0, .slice none 0 0]) := I5 (by
    have := Box.new (w.alloc (.cells #[.int .u8 3, .slice aw ap av, .slice aA ks.length az, .int .u8 vo, .bool am, .bool ak, .slice aE aB aD, .bool ar, .bool aq, .slice aI aC aH] 29)) 32 #[.bool false, .bool false, .slice none 0 0, .slice none 0 0, .slice none 0 0]
    simpa [x0] using this)
  show Calls _ _ #[.agg #[.int .u8 3, .slice aw ap av, .slice aA ks.length az, .int .u8 vo, .bool am, .bool ak, .slice aE aB aD, .bool ar, .bool aq, .slice aI aC aH]] _ _
  go_enter Tryz.func39, Tryz.ntmps39
  go_upto_region 1 with fail
  change Code.wp _ _ _ _ x0
  clear_value x0
  have q0 := X.out.cell 0 rfl
  have O := I5 (OwnG.nil x0 (w.heap.size + 2) 5)
  have KD : Hid (∀ i (hi : i < (([] : List Sx) ++ Tg.valueL (ks.take 0)).length), RdI (okO (fun b => w.heap.size + 2 ≤ b) (.slice none 0 0)) x0 SV.nil (([] : List Sx) ++ Tg.valueL (ks.take 0))[i]) := I5 (fun i hi => absurd hi (Nat.not_lt_zero _))
  have X5 := X
  have Y5 := Y
  clear X Y
  have q2 := X5.out.cell 2 rfl
  have uk := Y5.out.lt
  go_wp2_with fail
  go_loopw [3, 61] (fun acc i wr => ∃ (k n : Nat) (K : Nat → SV), k ≤ ks.length ∧ i = .int .i64 k ∧ n = k + 0 ∧ OwnG wr (w.heap.size + 2) 5 acc n (newsK K n) ∧ Hid (∀ i (hi : i < (([] : List Sx) ++ Tg.valueL (ks.take (k))).length), RdI (okO (fun b => w.heap.size + 2 ≤ b) acc) wr (K i) (([] : List Sx) ++ Tg.valueL (ks.take (k)))[i]) ∧ w.heap.size + 2 ≤ wr.heap.size ∧ Below w.heap.size w wr ∧ Box wr (w.heap.size + 1) 32 #[.bool false, .bool false, .slice none 0 0, .slice none 0 0, .slice none 0 0]) (fun _ i _ => ks.length - (intOf i).toNat)
  case atStart => exact ⟨0, 0, (fun _ => SV.nil), Nat.zero_le _, rfl, rfl, O.out, KD, by omega, B, Y5.out⟩
  case round =>
    obtain ⟨k, n, KK, AH, rfl, i9, ho, hme, kQ, hb, hy⟩ := hrel
    clear q2 O KD X5 Y5 B
    have sv := I5 i9
    have ut : n ≤ 710 := by omega
    clear i9
    by_cases aJ : k < ks.length
    case pos =>
      obtain ⟨b, o, rfl, a8⟩ := (HR.out.after hb).range aJ
      have HL := I5 a8
      clear a8
      have IH2 := I5 (IH.out _ (List.getElem_mem aJ) (K k))
      have nh := I5 ((HK.out k aJ).after hb)
      obtain ⟨v1, ic⟩ : ∃ v1, v1 = K k := ⟨_, rfl⟩
      rw [← ic] at HL IH2 nh
      clear ic
      obtain ⟨dt, dp, dj, dm, dn, cZ, dk, eo, dA, dy, dC, dz, dB, dF, dD, dH, dE, dG⟩ := v1
      have zO := HL.out
      go_upto_region 18 with (refine cD rfl _ rfl b _ rfl _ zO ?_; simp only [TV.val])
      let z1 := (wr.alloc (.cells #[.int .u8 dt, .slice dp dj dm, .slice dn cZ dk, .int .u8 eo, .bool dA, .bool dy, .slice dC dz dB, .bool dF, .bool dD, .slice dH dE dG] 29))
      have hA : Below wr.heap.size wr z1 := (Below.refl _ _).alloc (Nat.le_refl _) _
      have Y1 : Hid (Box z1 wr.heap.size 29 #[.int .u8 dt, .slice dp dj dm, .slice dn cZ dk, .int .u8 eo, .bool dA, .bool dy, .slice dC dz dB, .bool dF, .bool dD, .slice dH dE dG]) := I5 (Box.new _ _ _)
      change Code.wp _ _ _ _ z1
      clear_value z1
      have O1 := I5 (ho.after hA)
      have M1 := I5 (fun i hi => (hme.out i hi).after hA)
      have b1 := hb.trans (hA.mono hb.size)
      have IH3 := I5 (IH2.out z1 (nh.out.after hA))
      have El := hA.size
      have Au := Y1.out.lt
      have s8 := hy.after hA
      have nc := I5 ho.lt
      generalize wr.heap.size = y1 at *
      clear hA zO HL IH2 nh ho hme hy
      go_wp2_with (refine ab rfl 29 _ rfl Y1.out (by rfl) Tryz.underlying29 rfl (by kernel_rfl) ?_)
      refine IH3.out.mono ?_
      rintro e w1 ⟨⟨tl, th, bR, bN, bP, bQ, bL, bO, gG, gE, gF⟩, rfl, rt, hb4⟩
      unfold SV.val
      clear Y1 IH3
      have ca : Below w1.heap.size w1 (w1.alloc (.cells #[.bool tl, .bool th, .slice bR bN bP, .slice bQ bL bO, .slice gG gE gF] 32)) := (Below.refl _ _).alloc (Nat.le_refl _) _
      have O2 := I5 ((O1.out.after hb4).after ca)
      have M2 := I5 (fun i hi => ((M1.out i hi).after hb4).after ca)
      have AS := I5 O1.out.lt
      have RV := I5 ((rt.mono (ok' := okO (fun b => w.heap.size + 2 ≤ b) _) (fun b' hb' => ⟨by show w.heap.size + 2 ≤ b'; have : z1.heap.size ≤ b' := hb'; omega, fun e => by have := AS.out b' e; have : z1.heap.size ≤ b' := hb'; omega⟩)).after ca)
      have SR := I5 (xM w1 ⟨tl, th, bR, bN, bP, bQ, bL, bO, gG, gE, gF⟩)
      have b2 := (b1.trans (hb4.mono b1.size))
      have b3 := b2.trans (ca.mono b2.size)
      have wu := I5 ((s8.after hb4).after ca)
      have BT := ca.size
      have xD := hb4.size
      clear O1 M1 hb4 ca s8 rt
      go_wp2_with (refine bw rfl _ _ rfl rfl O2.out rfl SR.out (by omega) (by simp; omega) ?_; intro v3 w3 fj hg3 mh; rw [iJ] at fj)
      go_roundw
      case rel => exact ⟨k + 1, n + 1, _, by omega, by go_num, by have := sv.out; omega, fj, I5 (by
            have hL : (([] : List Sx) ++ Tg.valueL (ks.take (k + 1))) = (([] : List Sx) ++ Tg.valueL (ks.take (k))) ++ [ks[k].value] := by rw [aQ, aQ, List.take_succ_eq_append_getElem aJ, List.map_append, List.append_assoc]; rfl
            rw [hL]
            exact iA (by have := sv.out; simp [aQ]; omega) M2.out RV.out hg3 mh), (by have := hg3.size; omega), bX w.heap.size (by omega) (by omega) O2.out hg3 b3, wu.out.grown hg3 (fun k hk => by have := nc.out k hk; omega)⟩
      case measure => simp [intOf]; omega
    case neg =>
      have te : k = ks.length := by omega
      have mn : ks.take k = ks := List.take_of_length_le (by omega)
      rw [mn] at hme
      obtain ⟨ra, rc, rfl, gi, jb⟩ := ho.row
      have RW := I5 gi
      have HL := I5 (show n = (([] : List Sx) ++ Tg.valueL ks).length by have := sv.out; simp [aQ]; omega)
      clear gi ho mn te
      go_wp2_with fail
      refine (gh (fun b => w.heap.size + 2 ≤ b) ra n rc KK (([] : List Sx) ++ Tg.valueL ks) wr RW.out (by omega) HL.out (fun i hi => (hme.out i hi).mono (fun b h => h.1)) (fun b hb' => by show w.heap.size + 2 ≤ b; omega)).mono ?_
      rintro e w5 ⟨⟨tl, th, bR, bN, bP, bQ, bL, bO, gG, gE, gF⟩, rfl, r5, b5⟩
      have DU := I5 (hy.after b5)
      have B := hb.trans (b5.mono hb.size)
      have R5 := I5 r5
      unfold SV.val
      go_wp2_with (refine ac (cells := #[.bool tl, .bool th, .slice bR bN bP, .slice bQ bL bO, .slice gG gE gF]) rfl 32 _ _ rfl DU.out (by rfl) (by rfl) rfl (by kernel_rfl) (by simp [Value.oneCell']) ?_; intro u9 X9 st9)
      have B9 := st9.below w.heap.size w (by omega) B
      have R9 : RdI (fun b => w.heap.size ≤ b) u9 ⟨tl, th, bR, bN, bP, bQ, bL, bO, gG, gE, gF⟩ (li (([] : List Sx) ++ Tg.valueL ks)) := (R5.out.keep (w' := u9) (fun b hb => st9.other b (by have h1 : w.heap.size + 2 ≤ b := hb; omega))).mono (fun b hb => by have h1 : w.heap.size + 2 ≤ b := hb; show w.heap.size ≤ b; omega)
      exact bodyPost_ret (v := .agg #[.bool tl, .bool th, .slice bR bN bP, .slice bQ bL bO, .slice gG gE gF]) (ae rfl _ _ (by rfl) X9 Tryz.underlying32 rfl (by kernel_rfl)) rfl ⟨⟨tl, th, bR, bN, bP, bQ, bL, bO, gG, gE, gF⟩, rfl, R9, B9⟩
theorem pt {da : List UInt8} {ks : List Tg} {r : Rg} (v : TV) (w : World) (hr : RdT (fun _ => True) w v (.mk 4 da ks r)) (ih : ∀ x ∈ ks, ∀ (v : TV) (w : World), RdT (fun _ => True) w v x → Calls Tryz.prog 39 #[v.val] w (ValI (fun b => w.heap.size ≤ b) x.value w)) (fy : ks.length ≤ 700) :
    Calls Tryz.prog 39 #[v.val] w (ValI (fun b => w.heap.size ≤ b) (li (([at1 starL, at1 setL] : List Sx) ++ Tg.valueL ks)) w) := by
  obtain ⟨⟨cH, ho, cK, dv, dx, dw, fJ, fF⟩, an, hsl, cf, hn, K, ah, hk⟩ := hr.parts
  obtain ⟨ay, aw, ap, av, aA, aS, az, vo, am, ak, aE, aB, aD, ar, aq, aI, aC, aH⟩ := v
  obtain ⟨ro, ⟨li, lo, ll⟩, ⟨hi, mN, hl⟩⟩ := r
  dsimp only [Tg.kd, Tg.r, Tg.da, Tg.ks] at cH ho cK dv dx dw fJ fF an hsl cf hn ah hk
  obtain rfl : ay = 4 := cH
  subst ho cK dv dx dw hn
  have fL := I5 an
  have ke := I5 hsl
  have kf := I5 cf
  have HR := I5 ah
  have HK := I5 hk
  have ep := I5 an.1
  have kF := I5 hsl.1
  have kG := I5 cf.1
  have cF := Nat.le_trans an.2.1 an.2.2.1
  have cE := Nat.le_trans ah.1 ah.2.1
  unfold maxLen at cF cE
  clear an hsl cf ah hk hr
  have IH := I5 ih
  clear ih
  let x0 := ((w.alloc (.cells #[.int .u8 4, .slice aw ap av, .slice aA ks.length az, .int .u8 vo, .bool am, .bool ak, .slice aE aB aD, .bool ar, .bool aq, .slice aI aC aH] 29)).alloc (.cells #[.bool false, .bool false, .slice none 0 0, .slice none 0 0, .slice none 0 0] 32))
  have B : Below w.heap.size w x0 := ((Below.refl _ _).alloc (Nat.le_refl _) _).alloc (by simp [x0, x0]) _
  have X : Hid (Box x0 w.heap.size 29 #[.int .u8 4, .slice aw ap av, .slice aA ks.length az, .int .u8 vo, .bool am, .bool ak, .slice aE aB aD, .bool ar, .bool aq, .slice aI aC aH]) := I5 ((Box.new _ _ _).alloc _)
  have Y : Hid (Box x0 (w.heap.size + 1) 32 #[.bool false, .bool false, .slice none 0 0, .slice none 0 0, .slice none 0 0]) := I5 (by
    have := Box.new (w.alloc (.cells #[.int .u8 4, .slice aw ap av, .slice aA ks.length az, .int .u8 vo, .bool am, .bool ak, .slice aE aB aD, .bool ar, .bool aq, .slice aI aC aH] 29)) 32 #[.bool false, .bool false, .slice none 0 0, .slice none 0 0, .slice none 0 0]
    simpa [x0] using this)
  show Calls _ _ #[.agg #[.int .u8 4, .slice aw ap av, .slice aA ks.length az, .int .u8 vo, .bool am, .bool ak, .slice aE aB aD, .bool ar, .bool aq, .slice aI aC aH]] _ _
  go_enter Tryz.func39, Tryz.ntmps39
  go_upto_region 1 with fail
  change Code.wp _ _ _ _ x0
  clear_value x0
  have q0 := X.out.cell 0 rfl
  have zD := Y.out.lt
  go_wp2_with fail
  refine (cG (fun b => w.heap.size + 2 ≤ b) ⟨#[42]⟩ (by decide) x0 (fun b hb => by show w.heap.size + 2 ≤ b; omega)).mono ?_
  rintro e x1 ⟨vA, rfl, rA, bx1⟩
  have RA := I5 rA
  clear rA q0
  replace X := I5 (X.out.after bx1)
  replace Y := I5 (Y.out.after bx1)
  replace B := B.trans (bx1.mono B.size)
  clear bx1
  have s8 := Y.out.lt
  go_wp2_with fail
  refine (cG (fun b => w.heap.size + 2 ≤ b) ⟨#[115, 101, 116]⟩ (by decide) x1 (fun b hb => by show w.heap.size + 2 ≤ b; omega)).mono ?_
  rintro e x2 ⟨vD, rfl, rD, bx2⟩
  have RD := I5 rD
  clear rD
  replace X := I5 (X.out.after bx2)
  replace Y := I5 (Y.out.after bx2)
  replace RA := I5 (RA.out.after bx2)
  replace B := B.trans (bx2.mono B.size)
  clear bx2
  have wu := Y.out.lt
  simp only [SV.val]
  replace RA := I5 RA.out.there
  replace RD := I5 RD.out.there
  let x3 := (x2.alloc (.cells #[.bool vA.l, .bool vA.h, .slice vA.a1 vA.n1 vA.c1, .slice vA.a2 vA.n2 vA.c2, .slice vA.a3 vA.n3 vA.c3, .bool vD.l, .bool vD.h, .slice vD.a1 vD.n1 vD.c1, .slice vD.a2 vD.n2 vD.c2, .slice vD.a3 vD.n3 vD.c3] 32))
  have c4 : Below x2.heap.size x2 x3 := (Below.refl _ _).alloc (Nat.le_refl _) _
  have O : Hid (OwnG x3 (w.heap.size + 2) 5 (.slice (some ⟨x2.heap.size, 0, none⟩) 2 2) 2 (newsK (fun i => if i = 0 then vA else vD) 2)) := I5 (by
    have := OwnG.new x2 (w.heap.size + 2) 5 (by omega) #[.bool vA.l, .bool vA.h, .slice vA.a1 vA.n1 vA.c1, .slice vA.a2 vA.n2 vA.c2, .slice vA.a3 vA.n3 vA.c3, .bool vD.l, .bool vD.h, .slice vD.a1 vD.n1 vD.c1, .slice vD.a2 vD.n2 vD.c2, .slice vD.a3 vD.n3 vD.c3] 32 2 2 (Nat.le_refl _) (by unfold maxLen; omega) rfl
    exact this)
  go_upto_region 15 with fail
  change Code.wp _ _ _ _ x3
  replace X := I5 (X.out.after c4)
  replace Y := I5 (Y.out.after c4)
  replace RA := I5 (RA.out.after c4)
  replace RD := I5 (RD.out.after c4)
  replace B := B.trans (c4.mono B.size)
  clear c4
  clear_value x3
  have KD : Hid (∀ i (hi : i < (([at1 starL, at1 setL] : List Sx) ++ Tg.valueL (ks.take 0)).length), RdI (okO (fun b => w.heap.size + 2 ≤ b) (.slice (some ⟨x2.heap.size, 0, none⟩) 2 2)) x3 ((fun i => if i = 0 then vA else vD) i) (([at1 starL, at1 setL] : List Sx) ++ Tg.valueL (ks.take 0))[i]) := I5 (fun i hi => match i, hi with
    | 0, _ => RA.out.mono (fun b hb => ⟨hb.1, fun e => by simp [Value.ownBlock] at e; have := hb.2; omega⟩)
    | 1, _ => RD.out.mono (fun b hb => ⟨hb.1, fun e => by simp [Value.ownBlock] at e; have := hb.2; omega⟩))
  generalize (Value.slice (some ⟨x2.heap.size, 0, none⟩) 2 2) = acc0 at *
  generalize (fun i => if i = 0 then vA else vD) = K0 at *
  clear RA RD
  have X5 := X
  have Y5 := Y
  clear X Y
  have q2 := X5.out.cell 2 rfl
  have uk := Y5.out.lt
  go_wp2_with fail
  go_loopw [3, 61] (fun acc i wr => ∃ (k n : Nat) (K : Nat → SV), k ≤ ks.length ∧ i = .int .i64 k ∧ n = k + 2 ∧ OwnG wr (w.heap.size + 2) 5 acc n (newsK K n) ∧ Hid (∀ i (hi : i < (([at1 starL, at1 setL] : List Sx) ++ Tg.valueL (ks.take (k))).length), RdI (okO (fun b => w.heap.size + 2 ≤ b) acc) wr (K i) (([at1 starL, at1 setL] : List Sx) ++ Tg.valueL (ks.take (k)))[i]) ∧ w.heap.size + 2 ≤ wr.heap.size ∧ Below w.heap.size w wr ∧ Box wr (w.heap.size + 1) 32 #[.bool false, .bool false, .slice none 0 0, .slice none 0 0, .slice none 0 0]) (fun _ i _ => ks.length - (intOf i).toNat)
  case atStart => exact ⟨0, 2, K0, Nat.zero_le _, rfl, rfl, O.out, KD, by omega, B, Y5.out⟩
  case round =>
    obtain ⟨k, n, KK, AH, rfl, i9, ho, hme, kQ, hb, hy⟩ := hrel
    clear q2 O KD X5 Y5 B
    have sv := I5 i9
    have ut : n ≤ 710 := by omega
    clear i9
    by_cases aJ : k < ks.length
    case pos =>
      obtain ⟨b, o, rfl, a8⟩ := (HR.out.after hb).range aJ
      have HL := I5 a8
      clear a8
      have IH2 := I5 (IH.out _ (List.getElem_mem aJ) (K k))
      have nh := I5 ((HK.out k aJ).after hb)
      obtain ⟨v1, ic⟩ : ∃ v1, v1 = K k := ⟨_, rfl⟩
      rw [← ic] at HL IH2 nh
      clear ic
      obtain ⟨dt, dp, dj, dm, dn, cZ, dk, eo, dA, dy, dC, dz, dB, dF, dD, dH, dE, dG⟩ := v1
      have zO := HL.out
      go_upto_region 18 with (refine cD rfl _ rfl b _ rfl _ zO ?_; simp only [TV.val])
      let z1 := (wr.alloc (.cells #[.int .u8 dt, .slice dp dj dm, .slice dn cZ dk, .int .u8 eo, .bool dA, .bool dy, .slice dC dz dB, .bool dF, .bool dD, .slice dH dE dG] 29))
      have hA : Below wr.heap.size wr z1 := (Below.refl _ _).alloc (Nat.le_refl _) _
      have Y1 : Hid (Box z1 wr.heap.size 29 #[.int .u8 dt, .slice dp dj dm, .slice dn cZ dk, .int .u8 eo, .bool dA, .bool dy, .slice dC dz dB, .bool dF, .bool dD, .slice dH dE dG]) := I5 (Box.new _ _ _)
      change Code.wp _ _ _ _ z1
      clear_value z1
      have O1 := I5 (ho.after hA)
      have M1 := I5 (fun i hi => (hme.out i hi).after hA)
      have b1 := hb.trans (hA.mono hb.size)
      have IH3 := I5 (IH2.out z1 (nh.out.after hA))
      have El := hA.size
      have Au := Y1.out.lt
      have s8 := hy.after hA
      have nc := I5 ho.lt
      generalize wr.heap.size = y1 at *
      clear hA zO HL IH2 nh ho hme hy
      go_wp2_with (refine ab rfl 29 _ rfl Y1.out (by rfl) Tryz.underlying29 rfl (by kernel_rfl) ?_)
      refine IH3.out.mono ?_
      rintro e w1 ⟨⟨tl, th, bR, bN, bP, bQ, bL, bO, gG, gE, gF⟩, rfl, rt, hb4⟩
      unfold SV.val
      clear Y1 IH3
      have ca : Below w1.heap.size w1 (w1.alloc (.cells #[.bool tl, .bool th, .slice bR bN bP, .slice bQ bL bO, .slice gG gE gF] 32)) := (Below.refl _ _).alloc (Nat.le_refl _) _
      have O2 := I5 ((O1.out.after hb4).after ca)
      have M2 := I5 (fun i hi => ((M1.out i hi).after hb4).after ca)
      have AS := I5 O1.out.lt
      have RV := I5 ((rt.mono (ok' := okO (fun b => w.heap.size + 2 ≤ b) _) (fun b' hb' => ⟨by show w.heap.size + 2 ≤ b'; have : z1.heap.size ≤ b' := hb'; omega, fun e => by have := AS.out b' e; have : z1.heap.size ≤ b' := hb'; omega⟩)).after ca)
      have SR := I5 (xM w1 ⟨tl, th, bR, bN, bP, bQ, bL, bO, gG, gE, gF⟩)
      have b2 := (b1.trans (hb4.mono b1.size))
      have b3 := b2.trans (ca.mono b2.size)
      have wu := I5 ((s8.after hb4).after ca)
      have BT := ca.size
      have xD := hb4.size
      clear O1 M1 hb4 ca s8 rt
      go_wp2_with (refine bw rfl _ _ rfl rfl O2.out rfl SR.out (by omega) (by simp; omega) ?_; intro v3 w3 fj hg3 mh; rw [iJ] at fj)
      go_roundw
      case rel => exact ⟨k + 1, n + 1, _, by omega, by go_num, by have := sv.out; omega, fj, I5 (by
            have hL : (([at1 starL, at1 setL] : List Sx) ++ Tg.valueL (ks.take (k + 1))) = (([at1 starL, at1 setL] : List Sx) ++ Tg.valueL (ks.take (k))) ++ [ks[k].value] := by rw [aQ, aQ, List.take_succ_eq_append_getElem aJ, List.map_append, List.append_assoc]; rfl
            rw [hL]
            exact iA (by have := sv.out; simp [aQ]; omega) M2.out RV.out hg3 mh), (by have := hg3.size; omega), bX w.heap.size (by omega) (by omega) O2.out hg3 b3, wu.out.grown hg3 (fun k hk => by have := nc.out k hk; omega)⟩
      case measure => simp [intOf]; omega
    case neg =>
      have te : k = ks.length := by omega
      have mn : ks.take k = ks := List.take_of_length_le (by omega)
      rw [mn] at hme
      obtain ⟨ra, rc, rfl, gi, jb⟩ := ho.row
      have RW := I5 gi
      have HL := I5 (show n = (([at1 starL, at1 setL] : List Sx) ++ Tg.valueL ks).length by have := sv.out; simp [aQ]; omega)
      clear gi ho mn te
      go_wp2_with fail
      refine (gh (fun b => w.heap.size + 2 ≤ b) ra n rc KK (([at1 starL, at1 setL] : List Sx) ++ Tg.valueL ks) wr RW.out (by omega) HL.out (fun i hi => (hme.out i hi).mono (fun b h => h.1)) (fun b hb' => by show w.heap.size + 2 ≤ b; omega)).mono ?_
      rintro e w5 ⟨⟨tl, th, bR, bN, bP, bQ, bL, bO, gG, gE, gF⟩, rfl, r5, b5⟩
      have DU := I5 (hy.after b5)
      have B := hb.trans (b5.mono hb.size)
      have R5 := I5 r5
      unfold SV.val
      go_wp2_with (refine ac (cells := #[.bool tl, .bool th, .slice bR bN bP, .slice bQ bL bO, .slice gG gE gF]) rfl 32 _ _ rfl DU.out (by rfl) (by rfl) rfl (by kernel_rfl) (by simp [Value.oneCell']) ?_; intro u9 X9 st9)
      have B9 := st9.below w.heap.size w (by omega) B
      have R9 : RdI (fun b => w.heap.size ≤ b) u9 ⟨tl, th, bR, bN, bP, bQ, bL, bO, gG, gE, gF⟩ (li (([at1 starL, at1 setL] : List Sx) ++ Tg.valueL ks)) := (R5.out.keep (w' := u9) (fun b hb => st9.other b (by have h1 : w.heap.size + 2 ≤ b := hb; omega))).mono (fun b hb => by have h1 : w.heap.size + 2 ≤ b := hb; show w.heap.size ≤ b; omega)
      exact bodyPost_ret (v := .agg #[.bool tl, .bool th, .slice bR bN bP, .slice bQ bL bO, .slice gG gE gF]) (ae rfl _ _ (by rfl) X9 Tryz.underlying32 rfl (by kernel_rfl)) rfl ⟨⟨tl, th, bR, bN, bP, bQ, bL, bO, gG, gE, gF⟩, rfl, R9, B9⟩
theorem qL (t : Tg) : ∀ (v : TV) (m : Nat) (w : World), RdT (fun _ => True) w v t → t.ok = true → t.wide m = false → Calls Tryz.prog 39 #[v.val] w (ValI (fun b => w.heap.size ≤ b) t.value w) := by
 induction t using Tg.ind with
 | h kd da ks r ih =>
  intro v m w hr ho hw
  rw [iH] at ho
  simp only [Bool.and_eq_true, jL] at ho
  obtain ⟨_, g2, g3, g4, g5, g6⟩ := cy hw
  have IH := fun x hx (v : TV) (w : World) h => ih x hx v (m + 1) w h (ho.2 x hx) (g6 x hx)
  have hb := ho.1.1
  rw [dd]
  by_cases h1 : kd = 1
  ·subst h1; exact pw v w hr
  by_cases h2 : kd = 2
  ·subst h2; exact pv v w hr g3
  by_cases h5 : kd = 5
  ·subst h5; exact ps v w hr g3
  by_cases h6 : kd = 6
  ·subst h6
   refine pr v w hr (by omega) (by omega) ?_
   unfold blankT at hb
   simp only [show ¬ (6 = 1) by decide, show ¬ (6 = 2 ∨ 6 = 5) by decide, show ¬ (6 = 3 ∨ 6 = 4) by decide, if_false, Bool.and_eq_true] at hb
   have := hb.2
   unfold mayB isO at this
   simp only [Bool.and_eq_true, decide_eq_true_eq] at this
   exact this.1.1
  by_cases h4 : kd = 4
  ·subst h4; exact pt v w hr IH g2
  by_cases h3 : kd = 3
  ·subst h3; exact pu v w hr IH g2
  ·unfold blankT at hb
   rw [if_neg h1, if_neg (by omega), if_neg (by omega)] at hb
   simp at hb
   omega
end Go.Proofs.YtmmkaclmgnpplaaGreatDoor

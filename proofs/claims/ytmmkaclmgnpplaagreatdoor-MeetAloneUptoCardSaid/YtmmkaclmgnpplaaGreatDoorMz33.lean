import Derived.Test.YtmmkaclmgnpplaaGreatDoorMz32
set_option maxRecDepth 100000
set_option maxHeartbeats 64000000
set_option linter.unusedSimpArgs false
set_option linter.unusedVariables false
namespace Go.Proofs.YtmmkaclmgnpplaaGreatDoor
open Go.RowKit
theorem mX (a : Option Addr) (n c : Nat) (l : List UInt8) (b : Option Addr) (m d : Nat) (f : List UInt8) (w : World) (hs : Sl w a n c l) (aO : Sl w b m d f) :
  Calls Tryz.prog 81 #[.slice a n c, .slice b m d] w fun e w' => e = .returned (.bool (prefB l f)) ∧ Below w.heap.size w w' := by
 have HN := I5 hs.1
 have HM := I5 aO.1
 have ea := Nat.le_trans hs.2.1 hs.2.2.1
 have qb := Nat.le_trans aO.2.1 aO.2.2.1
 have ie := hs.2.1
 unfold maxLen at ea qb
 have HS := I5 hs
 have mJ := I5 aO
 clear hs aO
 go_enter Tryz.func81, Tryz.ntmps81
 go_upto_region 1 with fail
 by_cases aJ : m ≤ n
 case neg =>
  have HF : Hid (prefB l f = false) := I5 (by unfold prefB; rw [decide_eq_false (by have := HN.out; have := HM.out; omega)]; rfl)
  have cK : ¬ (m : Int) ≤ n := by omega
  refine aP w.heap.size w rfl (by kernel_rfl) (Below.refl _ _) ?_
  refine aa rfl (.slice a n c) (fun w' hw => by simp [go_sem]) ?_
  simp only [Act.put, I2, I3, I4]
  refine aa rfl (.int .i64 n) (fun w' hw => by simp [go_sem]) ?_
  simp only [Act.put, I2, I3, I4]
  refine aa rfl (.slice b m d) (fun w' hw => by simp [go_sem]) ?_
  simp only [Act.put, I2, I3, I4]
  refine aa rfl (.int .i64 m) (fun w' hw => by simp [go_sem]) ?_
  simp only [Act.put, I2, I3, I4]
  refine aa rfl (.bool false) (fun w' hw => by simp [go_sem]; omega) ?_
  simp only [Act.put, I2, I3, I4]
  refine aa rfl (.bool false) (fun w' hw => by simp [go_sem]) ?_
  simp only [Act.put, I2, I3, I4]
  refine aj rfl ?_
  simp only [Act.put, I2, I3, I4]
  refine aj rfl ?_
  simp only [Act.put, I2, I3, I4]
  refine aj rfl ?_
  simp only [Act.put, I2, I3, I4]
  refine aj rfl ?_
  simp only [Act.put, I2, I3, I4]
  refine aj rfl ?_
  simp only [Act.put, I2, I3, I4]
  refine aj rfl ?_
  simp only [Act.put, I2, I3, I4]
  refine aj rfl ?_
  simp only [Act.put, I2, I3, I4]
  refine aj rfl ?_
  simp only [Act.put, I2, I3, I4]
  refine aa rfl (.bool false) (fun w' hw => by simp [go_sem]) ?_
  simp only [Act.put, I2, I3, I4]
  refine aa rfl (.bool false) (fun w' hw => by simp [go_sem]) ?_
  simp only [Act.put, I2, I3, I4]
  intro y1 af
  go_wp2_with fail
  go_ret
  exact ⟨by rw [HF.out] <;> rfl, af⟩
 have HF : Hid (prefB l f = (l.take m == f)) := I5 (by unfold prefB; rw [decide_eq_true (by have := HN.out; have := HM.out; omega), ← HM.out]; rfl)
 have cK : (m : Int) ≤ n := by omega
 have AG : (m : Int) ≤ c := by omega
 have Cn : (0 : Int) ≤ m := by omega
 have Eo : m ≤ c := by omega
 have HT := I5 (HS.out.takeT aJ)
 obtain ⟨r, hr⟩ : ∃ r, r = (l.take m == f) := ⟨_, rfl⟩
 rw [← hr] at HF
 refine aP w.heap.size w rfl (by kernel_rfl) (Below.refl _ _) ?_
 refine aa rfl (.slice a n c) (fun w' hw => by simp [go_sem]) ?_
 simp only [Act.put, I2, I3, I4]
 refine aa rfl (.int .i64 n) (fun w' hw => by simp [go_sem]) ?_
 simp only [Act.put, I2, I3, I4]
 refine aa rfl (.slice b m d) (fun w' hw => by simp [go_sem]) ?_
 simp only [Act.put, I2, I3, I4]
 refine aa rfl (.int .i64 m) (fun w' hw => by simp [go_sem]) ?_
 simp only [Act.put, I2, I3, I4]
 refine aa rfl (.bool true) (fun w' hw => by simp [go_sem]; omega) ?_
 simp only [Act.put, I2, I3, I4]
 refine aa rfl (.bool true) (fun w' hw => by simp [go_sem]) ?_
 simp only [Act.put, I2, I3, I4]
 refine aa rfl (.slice a n c) (fun w' hw => by simp [go_sem]) ?_
 simp only [Act.put, I2, I3, I4]
 refine aa rfl (.slice b m d) (fun w' hw => by simp [go_sem]) ?_
 simp only [Act.put, I2, I3, I4]
 refine aa rfl (.int .i64 m) (fun w' hw => by simp [go_sem]) ?_
 simp only [Act.put, I2, I3, I4]
 refine aa rfl (.slice a m c) (fun w' hw => by simp [go_sem, Eo, AG, Cn]) ?_
 simp only [Act.put, I2, I3, I4]
 refine aa rfl (.string ⟨(l.take m).toArray⟩) (fun w' hw => by have := bv (HT.out.after hw); simp [go_sem, this]) ?_
 simp only [Act.put, I2, I3, I4]
 refine aa rfl (.slice b m d) (fun w' hw => by simp [go_sem]) ?_
 simp only [Act.put, I2, I3, I4]
 refine aa rfl (.string ⟨f.toArray⟩) (fun w' hw => by have := bv (mJ.out.after hw); simp [go_sem, this]) ?_
 simp only [Act.put, I2, I3, I4]
 refine aa rfl (.bool r) (fun w' hw => by simp [go_sem, hr]) ?_
 simp only [Act.put, I2, I3, I4]
 refine aa rfl (.bool r) (fun w' hw => by simp [go_sem]) ?_
 simp only [Act.put, I2, I3, I4]
 refine aa rfl (.bool r) (fun w' hw => by simp [go_sem]) ?_
 simp only [Act.put, I2, I3, I4]
 intro y1 af
 go_wp2_with fail
 go_ret
 exact ⟨by rw [HF.out] <;> rfl, af⟩
theorem ot (ay : Nat) (aw : Option Addr) (ap av : Nat) (aA : Option Addr) (aS az : Nat) (vo : Nat) (am ak : Bool) (aE : Option Addr) (aB aD : Nat) (iw : List UInt8) (ar aq : Bool) (aI : Option Addr) (aC aH : Nat) (ix : List UInt8) (da : List UInt8) (ba : Option Addr) (bn bc : Nat) (bl : List UInt8) (w : World) (hs : Sl w aw ap av da) (an : Sl w aE aB aD iw) (ig : aB ≤ 6000) (aO : Sl w aI aC aH ix) (gk : aC ≤ 6000) (gV : Sl w ba bn bc bl) (ut : bn ≤ 6000) :
  Calls Tryz.prog 45 #[.agg #[.int .u8 ay, .slice aw ap av, .slice aA aS az, .int .u8 vo, .bool am, .bool ak, .slice aE aB aD, .bool ar, .bool aq, .slice aI aC aH], .slice ba bn bc] w fun e w' => e = .returned (.bool (Tg.takes ay da ⟨vo, ⟨am, ak, iw⟩, ⟨ar, aq, ix⟩⟩ bl)) ∧ Below w.heap.size w w' := by
 have HS := I5 hs
 have fL := I5 an
 have mJ := I5 aO
 have Be := I5 gV
 have HD := I5 (show Tg.takes ay da ⟨vo, ⟨am, ak, iw⟩, ⟨ar, aq, ix⟩⟩ bl = (if ay = 2 then da == bl else if ay = 5 then prefB bl da else decide (ay = 6) && inB ⟨vo, ⟨am, ak, iw⟩, ⟨ar, aq, ix⟩⟩ bl) from rfl)
 generalize Tg.takes ay da ⟨vo, ⟨am, ak, iw⟩, ⟨ar, aq, ix⟩⟩ bl = R at *
 clear hs an aO gV
 let x0 := (w.alloc (.cells #[.int .u8 ay, .slice aw ap av, .slice aA aS az, .int .u8 vo, .bool am, .bool ak, .slice aE aB aD, .bool ar, .bool aq, .slice aI aC aH] 29))
 have B : Below w.heap.size w x0 := (Below.refl _ _).alloc (Nat.le_refl _) _
 have X : Hid (Box x0 w.heap.size 29 #[.int .u8 ay, .slice aw ap av, .slice aA aS az, .int .u8 vo, .bool am, .bool ak, .slice aE aB aD, .bool ar, .bool aq, .slice aI aC aH]) := I5 (Box.new _ _ _)
 show Calls _ _ #[.agg #[.int .u8 ay, .slice aw ap av, .slice aA aS az, .int .u8 vo, .bool am, .bool ak, .slice aE aB aD, .bool ar, .bool aq, .slice aI aC aH], .slice ba bn bc] _ _
 go_enter Tryz.func45, Tryz.ntmps45
 go_upto_region 1 with fail
 change Code.wp _ _ _ _ x0
 clear_value x0
 have q0 := X.out.cell 0 rfl
 have q1 := X.out.cell 1 rfl
 by_cases h2 : ay = 2
 case pos =>
  subst h2
  have HF : Hid (R = (da == bl)) := HD
  clear HD
  have o7 := bv (HS.out.after B)
  have zL := bv (Be.out.after B)
  obtain ⟨r, hr⟩ : ∃ r, (da == bl) = r := ⟨_, rfl⟩
  rw [hr] at HF
  cases r with
  | true =>
   go_wp2_with fail
   go_ret
   exact ⟨by rw [HF.out] <;> rfl, B⟩
  | false =>
   go_wp2_with fail
   go_ret
   exact ⟨by rw [HF.out] <;> rfl, B⟩
 have t2 : ((ay : Int) == 2) = false := by simp; omega
 by_cases h5 : ay = 5
 case pos =>
  subst h5
  have HF : Hid (R = prefB bl da) := HD
  clear HD
  go_wp2_with fail
  refine (mX ba bn bc bl aw ap av da x0 (Be.out.after B) (HS.out.after B)).mono ?_
  rintro e x1 ⟨rfl, bx1⟩
  replace X := I5 (X.out.after bx1)
  replace B := B.trans (bx1.mono B.size)
  clear bx1
  have q0 := X.out.cell 0 rfl
  generalize prefB bl da = r9 at *
  cases r9 with
  | true =>
   go_wp2_with fail
   go_ret
   exact ⟨by rw [HF.out] <;> rfl, B⟩
  | false =>
   go_wp2_with fail
   go_ret
   exact ⟨by rw [HF.out] <;> rfl, B⟩
 have t5 : ((ay : Int) == 5) = false := by simp; omega
 have iY : Hid (R = (decide (ay = 6) && inB ⟨vo, ⟨am, ak, iw⟩, ⟨ar, aq, ix⟩⟩ bl)) := I5 (by rw [HD.out, if_neg h2, if_neg h5])
 clear HD h2 h5
 by_cases h6 : ay = 6
 case neg =>
  have t6 : ((ay : Int) == 6) = false := by simp; omega
  have HF : Hid (R = false) := I5 (by rw [iY.out, decide_eq_false h6]; rfl)
  clear iY h6
  go_wp2_with fail
  go_ret
  exact ⟨by rw [HF.out] <;> rfl, B⟩
 subst h6
 have HF : Hid (R = inB ⟨vo, ⟨am, ak, iw⟩, ⟨ar, aq, ix⟩⟩ bl) := I5 (by rw [iY.out, decide_eq_true rfl]; rfl)
 clear iY t2 t5
 go_wp2_with (refine ai rfl 27 _ rfl _ 3 rfl [.int .u8 vo, .bool am, .bool ak, .slice aE aB aD, .bool ar, .bool aq, .slice aI aC aH] _ (Box.midR X.out 3 [.int .u8 vo, .bool am, .bool ak, .slice aE aB aD, .bool ar, .bool aq, .slice aI aC aH] rfl) Tryz.underlying27 rfl (by kernel_rfl) ?_)
 refine (tT vo am ak aE aB aD iw ar aq aI aC aH ix ba bn bc bl x0 (fL.out.after B) ig (mJ.out.after B) gk (Be.out.after B) ut).mono ?_
 rintro e x1 ⟨rfl, bx1⟩
 replace X := I5 (X.out.after bx1)
 replace B := B.trans (bx1.mono B.size)
 clear bx1
 go_wp2_with fail
 go_ret
 exact ⟨by rw [HF.out] <;> rfl, B⟩
theorem lV (t : Tg) : ∀ (s : Sx) (v : TV) (u : SV) (m q : Nat) (w : World), RdT (fun _ => True) w v t → Rd w u s → t.wide m = false → s.wide q = false → Calls Tryz.prog 24 #[v.val, u.val] w fun e w' => e = .returned (.bool (t.allows s)) ∧ Below w.heap.size w w' := by
 induction t using Tg.ind with
 | h kd da ks r ih =>
 intro s v u m q w hr hru hw un
 have IH := I5 ih
 clear ih
 obtain ⟨_, g2, g3, g4, g5, g6⟩ := cy hw
 have HG := I5 g6
 clear g6 hw
 have gU := I5 hr
 have zr := I5 hru
 obtain ⟨⟨cH, ho, cK, dv, dx, dw, fJ, fF⟩, an, hsl, cf, hn, K, ah, hk⟩ := hr.parts
 obtain ⟨ay, aw, ap, av, aA, aS, az, vo, am, ak, aE, aB, aD, ar, aq, aI, aC, aH⟩ := v
 obtain ⟨ro, ⟨li, lo, ll⟩, ⟨hi, mN, hl⟩⟩ := r
 dsimp only [Tg.kd, Tg.r, Tg.da, Tg.ks] at cH ho cK dv dx dw fJ fF an hsl cf hn ah hk
 subst cH ho cK dv dx dw hn
 have fL := I5 an
 have ke := I5 hsl
 have kf := I5 cf
 have HR := I5 ah
 have HK := I5 hk
 have ep := I5 an.1
 have kF := I5 hsl.1
 have kG := I5 cf.1
 have cF := Nat.le_trans an.2.1 an.2.2.1
 have cE := Nat.le_trans ah.1 ah.2.1
 unfold maxLen at cF cE
 clear an hsl cf ah hk hr
 obtain ⟨sl0, sh0, fg, sda, vs⟩ := s
 obtain ⟨_, w2, _, w4, w5⟩ := jC un
 have zn := I5 un
 have Ba := I5 w5
 clear w5 un
 obtain ⟨eQ, fK, an, aO, uq, Ay, wC, KU, mi, Av⟩ := hru.parts
 obtain ⟨sl, sh, cv, cq, cr, co, ci, cn, cu, cI, cj⟩ := u
 dsimp only at uq Ay wC mi Av eQ fK an aO
 obtain rfl : sl = sl0 := eQ
 obtain rfl : sh = sh0 := fK
 replace uq : cI = vs.length := uq
 subst uq
 have Bc := I5 aO
 have Bb := I5 aO.1
 have Fd := I5 mi
 have Fe := I5 Av
 unfold maxLen at wC
 clear an aO mi Av hru
 have HD := I5 (mI ay da ks ⟨vo, ⟨am, ak, ll⟩, ⟨ar, aq, hl⟩⟩ (.mk sl sh fg sda vs))
 generalize (Tg.mk ay da ks ⟨vo, ⟨am, ak, ll⟩, ⟨ar, aq, hl⟩⟩).allows (.mk sl sh fg sda vs) = R at *
 unfold SV.val
 let x0 := ((w.alloc (.cells #[.int .u8 ay, .slice aw ap av, .slice aA ks.length az, .int .u8 vo, .bool am, .bool ak, .slice aE aB aD, .bool ar, .bool aq, .slice aI aC aH] 29)).alloc (.cells #[.bool sl, .bool sh, .slice cv cq cr, .slice co ci cn, .slice cu vs.length cj] 32))
 have B : Below w.heap.size w x0 := ((Below.refl _ _).alloc (Nat.le_refl _) _).alloc (by simp [x0, x0]) _
 have X : Hid (Box x0 w.heap.size 29 #[.int .u8 ay, .slice aw ap av, .slice aA ks.length az, .int .u8 vo, .bool am, .bool ak, .slice aE aB aD, .bool ar, .bool aq, .slice aI aC aH]) := I5 ((Box.new _ _ _).alloc _)
 have Y : Hid (Box x0 (w.heap.size + 1) 32 #[.bool sl, .bool sh, .slice cv cq cr, .slice co ci cn, .slice cu vs.length cj]) := I5 (by
  have := Box.new (w.alloc (.cells #[.int .u8 ay, .slice aw ap av, .slice aA ks.length az, .int .u8 vo, .bool am, .bool ak, .slice aE aB aD, .bool ar, .bool aq, .slice aI aC aH] 29)) 32 #[.bool sl, .bool sh, .slice cv cq cr, .slice co ci cn, .slice cu vs.length cj]
  simpa [x0] using this)
 show Calls _ _ #[.agg #[.int .u8 ay, .slice aw ap av, .slice aA ks.length az, .int .u8 vo, .bool am, .bool ak, .slice aE aB aD, .bool ar, .bool aq, .slice aI aC aH], .agg #[.bool sl, .bool sh, .slice cv cq cr, .slice co ci cn, .slice cu vs.length cj]] _ _
 go_enter Tryz.func24, Tryz.ntmps24
 go_upto_region 1 with fail
 change Code.wp _ _ _ _ x0
 clear_value x0
 have q0 := X.out.cell 0 rfl
 by_cases h1 : ay = 1
 case pos =>
  subst h1
  have HF : Hid (R = true) := HD
  clear HD
  go_wp2_with fail
  go_ret
  exact ⟨by rw [HF.out] <;> rfl, B⟩
 have t1 : ((ay : Int) == 1) = false := by simp; omega
 by_cases h4 : ay = 4
 case pos =>
  subst h4
  have iY : Hid (R = ks.any (fun x => x.allows (.mk sl sh fg sda vs))) := I5 (by rw [← nk]; exact HD.out)
  clear HD
  replace X : Hid (Box x0 w.heap.size 29 #[.int .u8 4, .slice aw ap av, .slice aA ks.length az, .int .u8 vo, .bool am, .bool ak, .slice aE aB aD, .bool ar, .bool aq, .slice aI aC aH]) := X
  simp only [show (((4 : Nat) : Int)) = 4 from rfl]
  have q2 := X.out.cell 2 rfl
  go_wp2_with fail
  go_loopw [5, 16] (fun _ i wr => ∃ k : Nat, k ≤ ks.length ∧ i = .int .i64 k ∧ Hid ((ks.take k).any (fun x => x.allows (.mk sl sh fg sda vs)) = false) ∧ Below w.heap.size w wr ∧ Box wr w.heap.size 29 #[.int .u8 4, .slice aw ap av, .slice aA ks.length az, .int .u8 vo, .bool am, .bool ak, .slice aE aB aD, .bool ar, .bool aq, .slice aI aC aH] ∧ Box wr (w.heap.size + 1) 32 #[.bool sl, .bool sh, .slice cv cq cr, .slice co ci cn, .slice cu vs.length cj]) (fun _ i _ => ks.length - (intOf i).toNat)
  case atStart => exact ⟨0, Nat.zero_le _, rfl, I5 rfl, B, X.out, Y.out⟩
  case round =>
   clear q0 q2 X Y B
   obtain ⟨k, fy, rfl, gy, B, hX, hY⟩ := hrel
   have X := I5 hX
   have Y := I5 hY
   clear hX hY
   by_cases aJ : k < ks.length
   case neg =>
    have fS : ¬ (k : Int) < ks.length := by omega
    have HF : Hid (R = false) := I5 (by rw [iY.out, ← gy.out, List.take_of_length_le (by omega)])
    go_wp2_with fail
    go_ret
    exact ⟨by rw [HF.out] <;> rfl, B⟩
   case pos =>
    have fS : (k : Int) < ks.length := by omega
    have cL : (0 : Int) ≤ k := by omega
    obtain ⟨b, o, rfl, a8⟩ := (HR.out.after B).range aJ
    have lq : b < wr.heap.size := cA (a8 0 _ rfl)
    have jy := I5 (iS (fun x => x.allows (.mk sl sh fg sda vs)) ks k aJ)
    obtain ⟨ck, fT⟩ : ∃ ck, ck = ks[k].allows (.mk sl sh fg sda vs) := ⟨_, rfl⟩
    have CI := I5 (fun w2 (h : Below wr.heap.size wr w2) => IH.out _ (List.getElem_mem aJ) (.mk sl sh fg sda vs) (K k) ⟨sl, sh, cv, cq, cr, co, ci, cn, cu, vs.length, cj⟩ (m + 1) q w2 (((HK.out k aJ).after B).after h) ((zr.out.after B).after h) (HG.out _ (List.getElem_mem aJ)) zn.out)
    rw [← fT] at CI
    have gQ := I5 fT
    clear fT
    go_upto_region 7 with fail
    refine aP wr.heap.size wr rfl (by kernel_rfl) (Below.refl _ _) ?_
    refine aa rfl (.pointer (some ⟨w.heap.size, 2, none⟩)) (fun w' hw => by simp [go_sem]) ?_
    simp only [Act.put, I2, I3, I4]
    refine aa rfl (.slice (some ⟨b, o, none⟩) ks.length az) (fun w' hw => by have := (X.out.after hw).cell 2 rfl; simp [go_sem, this]) ?_
    simp only [Act.put, I2, I3, I4]
    refine aa rfl (.int .i64 k) (fun w' hw => by simp [go_sem]) ?_
    simp only [Act.put, I2, I3, I4]
    refine aa rfl (.pointer (some ⟨b, o + k * 10, none⟩)) (fun w' hw => by simp [go_sem, cL, fS, aJ]) ?_
    simp only [Act.put, I2, I3, I4]
    refine bI rfl 29 _ rfl b (o + k * 10) rfl _ _ a8 lq Tryz.underlying29 rfl (by kernel_rfl) ?_
    simp only [Act.put, I2, I3, I4]
    refine aU rfl 32 _ rfl Y.out (by rfl) Y.out.lt Tryz.underlying32 rfl (by kernel_rfl) ?_
    simp only [Act.put, I2, I3, I4]
    refine be rfl 24 #[.agg (K k).cells, .agg #[.bool sl, .bool sh, .slice cv cq cr, .slice co ci cn, .slice cu vs.length cj]] (fun w' => by simp [go_sem]) (.bool ck) (Nat.le_refl _) (fun w' hw => CI.out w' hw) ?_
    simp only [Act.put, I2, I3, I4]
    intro z9 hb9
    replace X := I5 (X.out.after hb9)
    replace Y := I5 (Y.out.after hb9)
    replace B := B.trans (hb9.mono B.size)
    clear hb9
    clear CI a8
    cases ck with
    | true =>
     have HF : Hid (R = true) := I5 (by rw [iY.out]; exact List.any_eq_true.2 ⟨_, List.getElem_mem aJ, gQ.out.symm⟩)
     go_wp2_with fail
     go_ret
     exact ⟨by rw [HF.out] <;> rfl, B⟩
    | false =>
     go_wp2_with fail
     go_roundw
     case rel => exact ⟨k + 1, by omega, by go_num, I5 (by rw [jy.out, gy.out, ← gQ.out]; rfl), B, X.out, Y.out⟩
     case measure => simp [intOf]; omega
 have t4 : ((ay : Int) == 4) = false := by simp; omega
 by_cases h3 : ay = 3
 case neg =>
  have t3 : ((ay : Int) == 3) = false := by simp; omega
  have t3n : ((ay : Int) != 3) = true := by simp; omega
  have iY : Hid (R = (!sl && Tg.takes ay da ⟨vo, ⟨am, ak, ll⟩, ⟨ar, aq, hl⟩⟩ sda)) := I5 (by rw [HD.out, if_neg h1, if_neg h4, if_neg h3]; rfl)
  clear HD h1 h4 h3
  have y0 := Y.out.cell 0 rfl
  have y3 := Y.out.cell 3 rfl
  cases sl with
  | true =>
   have HF : Hid (R = false) := I5 (by rw [iY.out]; rfl)
   go_wp2_with fail
   go_ret
   exact ⟨by rw [HF.out] <;> rfl, B⟩
  | false =>
   have HF : Hid (R = Tg.takes ay da ⟨vo, ⟨am, ak, ll⟩, ⟨ar, aq, hl⟩⟩ sda) := I5 (by rw [iY.out]; rfl)
   clear iY
   go_wp2_with (refine ab rfl 29 _ rfl X.out (by rfl) Tryz.underlying29 rfl (by kernel_rfl) ?_)
   refine (ot ay aw ap av aA ks.length az vo am ak aE aB aD ll ar aq aI aC aH hl da co ci cn sda x0 (fL.out.after B) (ke.out.after B) (by have := kF.out; (try dsimp only at g4); omega) (kf.out.after B) (by have := kG.out; (try dsimp only at g5); omega) (Bc.out.after B) (by have := Bb.out; omega)).mono ?_
   rintro e x1 ⟨rfl, bx1⟩
   replace X := I5 (X.out.after bx1)
   replace Y := I5 (Y.out.after bx1)
   replace B := B.trans (bx1.mono B.size)
   clear bx1
   go_wp2_with fail
   go_ret
   exact ⟨by rw [HF.out] <;> rfl, B⟩
 subst h3
 have iY : Hid (R = (sl && decide (ks.length ≤ vs.length) && Tg.eachA ks vs)) := HD
 replace X : Hid (Box x0 w.heap.size 29 #[.int .u8 3, .slice aw ap av, .slice aA ks.length az, .int .u8 vo, .bool am, .bool ak, .slice aE aB aD, .bool ar, .bool aq, .slice aI aC aH]) := X
 simp only [show (((3 : Nat) : Int)) = 3 from rfl]
 clear HD h1 h4 t1 t4 q0
 have q0 := X.out.cell 0 rfl
 have y0 := Y.out.cell 0 rfl
 have y4 := Y.out.cell 4 rfl
 have q2 := X.out.cell 2 rfl
 cases sl with
 | false =>
  have HF : Hid (R = false) := I5 (by rw [iY.out]; rfl)
  go_wp2_with fail
  go_ret
  exact ⟨by rw [HF.out] <;> rfl, B⟩
 | true =>
  by_cases yM : ks.length ≤ vs.length
  case neg =>
   have HF : Hid (R = false) := I5 (by rw [iY.out, decide_eq_false yM]; rfl)
   have cK : (vs.length : Int) < ks.length := by omega
   go_wp2_with fail
   go_ret
   exact ⟨by rw [HF.out] <;> rfl, B⟩
  have Bk : Hid (R = Tg.eachA ks vs) := I5 (by rw [iY.out, decide_eq_true yM]; rfl)
  clear iY
  have cK : ¬ (vs.length : Int) < ks.length := by omega
  go_wp2_with fail
  go_loopw [6, 54] (fun _ i wr => ∃ k : Nat, k ≤ ks.length ∧ i = .int .i64 k ∧ Hid (∀ j (h : j < k) (h2 : j < ks.length), ks[j].allows (vs[j]'(by omega)) = true) ∧ Below w.heap.size w wr ∧ Box wr w.heap.size 29 #[.int .u8 3, .slice aw ap av, .slice aA ks.length az, .int .u8 vo, .bool am, .bool ak, .slice aE aB aD, .bool ar, .bool aq, .slice aI aC aH] ∧ Box wr (w.heap.size + 1) 32 #[.bool true, .bool sh, .slice cv cq cr, .slice co ci cn, .slice cu vs.length cj]) (fun _ i _ => ks.length - (intOf i).toNat)
  case atStart => exact ⟨0, Nat.zero_le _, rfl, I5 (fun j h => absurd h (Nat.not_lt_zero _)), B, X.out, Y.out⟩
  case round =>
   clear q0 q2 y0 y4 X Y B
   obtain ⟨k, fy, rfl, hall, B, hX, hY⟩ := hrel
   have X := I5 hX
   have Y := I5 hY
   clear hX hY
   by_cases aJ : k < ks.length
   case neg =>
    have fS : ¬ (k : Int) < ks.length := by omega
    have HF : Hid (R = true) := I5 (by rw [Bk.out]; exact (kU yM).2 fun j hj => hall.out j (by omega) hj)
    clear hall Bk
    go_wp2_with fail
    go_ret
    exact ⟨by rw [HF.out] <;> rfl, B⟩
   case pos =>
    have fS : (k : Int) < ks.length := by omega
    have cL : (0 : Int) ≤ k := by omega
    obtain ⟨b, o, rfl, a8⟩ := (HR.out.after B).range aJ
    have lq : b < wr.heap.size := cA (a8 0 _ rfl)
    have Er : (k : Int) < vs.length := by omega
    have mm : k < vs.length := by omega
    obtain ⟨b2, o2, rfl, ij⟩ := (Fd.out.after B).range mm
    have hb2l : b2 < wr.heap.size := cA (ij 0 _ rfl)
    obtain ⟨ck, fT⟩ : ∃ ck, ck = ks[k].allows (vs[k]'mm) := ⟨_, rfl⟩
    have CI := I5 (fun w2 (h : Below wr.heap.size wr w2) => IH.out _ (List.getElem_mem aJ) (vs[k]'mm) (K k) (KU k) (m + 1) (q + 1) w2 (((HK.out k aJ).after B).after h) (((Fe.out k mm).after B).after h) (HG.out _ (List.getElem_mem aJ)) (Ba.out _ (List.getElem_mem mm)))
    rw [← fT] at CI
    have gQ := I5 fT
    clear fT
    go_upto_region 18 with fail
    refine aP wr.heap.size wr rfl (by kernel_rfl) (Below.refl _ _) ?_
    refine aa rfl (.pointer (some ⟨w.heap.size, 2, none⟩)) (fun w' hw => by simp [go_sem]) ?_
    simp only [Act.put, I2, I3, I4]
    refine aa rfl (.slice (some ⟨b, o, none⟩) ks.length az) (fun w' hw => by have := (X.out.after hw).cell 2 rfl; simp [go_sem, this]) ?_
    simp only [Act.put, I2, I3, I4]
    refine aa rfl (.int .i64 k) (fun w' hw => by simp [go_sem]) ?_
    simp only [Act.put, I2, I3, I4]
    refine aa rfl (.pointer (some ⟨b, o + k * 10, none⟩)) (fun w' hw => by simp [go_sem, cL, fS, aJ]) ?_
    simp only [Act.put, I2, I3, I4]
    refine bI rfl 29 _ rfl b (o + k * 10) rfl _ _ a8 lq Tryz.underlying29 rfl (by kernel_rfl) ?_
    simp only [Act.put, I2, I3, I4]
    refine aa rfl (.pointer (some ⟨w.heap.size + 1, 4, none⟩)) (fun w' hw => by simp [go_sem]) ?_
    simp only [Act.put, I2, I3, I4]
    refine aa rfl (.slice (some ⟨b2, o2, none⟩) vs.length cj) (fun w' hw => by have := (Y.out.after hw).cell 4 rfl; simp [go_sem, this]) ?_
    simp only [Act.put, I2, I3, I4]
    refine aa rfl (.int .i64 k) (fun w' hw => by simp [go_sem]) ?_
    simp only [Act.put, I2, I3, I4]
    refine aa rfl (.pointer (some ⟨b2, o2 + k * 5, none⟩)) (fun w' hw => by simp [go_sem, cL, Er, mm]) ?_
    simp only [Act.put, I2, I3, I4]
    refine bI rfl 32 _ rfl b2 (o2 + k * 5) rfl _ _ ij hb2l Tryz.underlying32 rfl (by kernel_rfl) ?_
    simp only [Act.put, I2, I3, I4]
    refine be rfl 24 #[.agg (K k).cells, .agg (KU k).cells] (fun w' => by simp [go_sem]) (.bool ck) (Nat.le_refl _) (fun w' hw => CI.out w' hw) ?_
    simp only [Act.put, I2, I3, I4]
    refine aa rfl (.bool (!ck)) (fun w' hw => by simp [go_sem]) ?_
    simp only [Act.put, I2, I3, I4]
    intro z9 hb9
    replace X := I5 (X.out.after hb9)
    replace Y := I5 (Y.out.after hb9)
    replace B := B.trans (hb9.mono B.size)
    clear hb9
    clear CI a8 ij
    cases ck with
    | false =>
     have HF : Hid (R = false) := I5 (by rw [Bk.out]; exact qo yM aJ gQ.out.symm)
     go_wp2_with fail
     go_ret
     exact ⟨by rw [HF.out] <;> rfl, B⟩
    | true =>
     go_wp2_with fail
     go_roundw
     case rel => exact ⟨k + 1, by omega, by go_num, I5 (fun j h h2 => by
       by_cases hj : j < k
       ·exact hall.out j hj h2
       ·obtain rfl : j = k := by omega
        exact gQ.out.symm), B, X.out, Y.out⟩
     case measure => simp [intOf]; omega
theorem mY (t : Tg) (s : Sx) (v : TV) (u : SV) (w : World) (hr : RdT (fun _ => True) w v t) (hru : Rd w u s) (hw : t.wide 0 = false) (un : s.wide 0 = false) (hc : t.count < 576460752303423488) (hn : s.nodes < 4611686018427387904) (hf : s.nodes ≤ 512 → s.form.length ≤ 70368744177664) : Calls Tryz.prog 10 #[v.val, u.val] w fun e w' => e = .returned (.bool (t.grants s)) ∧ Below w.heap.size w w' := by
 have gU := I5 hr
 have zr := I5 hru
 have HW := I5 hw
 have zn := I5 un
 have Im := I5 hf
 clear hr hru hw un hf
 obtain ⟨ay, aw, ap, av, aA, aS, az, vo, am, ak, aE, aB, aD, ar, aq, aI, aC, aH⟩ := v
 obtain ⟨sl, sh, cv, cq, cr, co, ci, cn, cu, cI, cj⟩ := u
 have C1 := I5 (fun w' (h : Below w.heap.size w w') => pJ t ⟨ay, aw, ap, av, aA, aS, az, vo, am, ak, aE, aB, aD, ar, aq, aI, aC, aH⟩ 0 w' (gU.out.after h) HW.out hc)
 have C2 := I5 (fun w' (h : Below w.heap.size w w') => qY s ⟨sl, sh, cv, cq, cr, co, ci, cn, cu, cI, cj⟩ w' (zr.out.after h) hn (by have := nS s 0 zn.out; omega) Im.out)
 have C3 := I5 (fun w' (h : Below w.heap.size w w') => lV t s ⟨ay, aw, ap, av, aA, aS, az, vo, am, ak, aE, aB, aD, ar, aq, aI, aC, aH⟩ ⟨sl, sh, cv, cq, cr, co, ci, cn, cu, cI, cj⟩ 0 0 w' (gU.out.after h) (zr.out.after h) HW.out zn.out)
 have HD := I5 (show t.grants s = (t.may && (s.req && t.allows s)) from rfl)
 generalize t.grants s = R at *
 generalize t.may = r1 at *
 generalize s.req = r2 at *
 generalize t.allows s = r3 at *
 unfold SV.val
 let x0 := ((w.alloc (.cells #[.int .u8 ay, .slice aw ap av, .slice aA aS az, .int .u8 vo, .bool am, .bool ak, .slice aE aB aD, .bool ar, .bool aq, .slice aI aC aH] 29)).alloc (.cells #[.bool sl, .bool sh, .slice cv cq cr, .slice co ci cn, .slice cu cI cj] 32))
 have B : Below w.heap.size w x0 := ((Below.refl _ _).alloc (Nat.le_refl _) _).alloc (by simp [x0, x0]) _
 have X : Hid (Box x0 w.heap.size 29 #[.int .u8 ay, .slice aw ap av, .slice aA aS az, .int .u8 vo, .bool am, .bool ak, .slice aE aB aD, .bool ar, .bool aq, .slice aI aC aH]) := I5 ((Box.new _ _ _).alloc _)
 have Y : Hid (Box x0 (w.heap.size + 1) 32 #[.bool sl, .bool sh, .slice cv cq cr, .slice co ci cn, .slice cu cI cj]) := I5 (by
  have := Box.new (w.alloc (.cells #[.int .u8 ay, .slice aw ap av, .slice aA aS az, .int .u8 vo, .bool am, .bool ak, .slice aE aB aD, .bool ar, .bool aq, .slice aI aC aH] 29)) 32 #[.bool sl, .bool sh, .slice cv cq cr, .slice co ci cn, .slice cu cI cj]
  simpa [x0] using this)
 show Calls _ _ #[.agg #[.int .u8 ay, .slice aw ap av, .slice aA aS az, .int .u8 vo, .bool am, .bool ak, .slice aE aB aD, .bool ar, .bool aq, .slice aI aC aH], .agg #[.bool sl, .bool sh, .slice cv cq cr, .slice co ci cn, .slice cu cI cj]] _ _
 go_enter Tryz.func10, Tryz.ntmps10
 go_upto_region 1 with fail
 change Code.wp _ _ _ _ x0
 clear_value x0
 go_wp2_with (refine ab rfl 29 _ rfl X.out (by rfl) Tryz.underlying29 rfl (by kernel_rfl) ?_)
 refine (C1.out x0 B).mono ?_
 rintro e x1 ⟨rfl, bx1⟩
 replace X := I5 (X.out.after bx1)
 replace Y := I5 (Y.out.after bx1)
 replace B := B.trans (bx1.mono B.size)
 clear bx1
 clear C1
 cases r1 with
 | false =>
  have HF : Hid (R = false) := I5 (by rw [HD.out]; rfl)
  go_wp2_with fail
  go_ret
  exact ⟨by rw [HF.out] <;> rfl, B⟩
 | true =>
  go_wp2_with (refine ab rfl 32 _ rfl Y.out (by rfl) Tryz.underlying32 rfl (by kernel_rfl) ?_)
  refine (C2.out x1 B).mono ?_
  rintro e x2 ⟨rfl, bx2⟩
  replace X := I5 (X.out.after bx2)
  replace Y := I5 (Y.out.after bx2)
  replace B := B.trans (bx2.mono B.size)
  clear bx2
  clear C2
  cases r2 with
  | false =>
   have HF : Hid (R = false) := I5 (by rw [HD.out]; rfl)
   go_wp2_with fail
   go_ret
   exact ⟨by rw [HF.out] <;> rfl, B⟩
  | true =>
   have HF : Hid (R = r3) := I5 (by rw [HD.out]; rfl)
   go_wp2_with first | (refine ab rfl 29 _ rfl X.out (by rfl) Tryz.underlying29 rfl (by kernel_rfl) ?_) | (refine ab rfl 32 _ rfl Y.out (by rfl) Tryz.underlying32 rfl (by kernel_rfl) ?_)
   refine (C3.out x2 B).mono ?_
   rintro e x3 ⟨rfl, bx3⟩
   replace X := I5 (X.out.after bx3)
   replace Y := I5 (Y.out.after bx3)
   replace B := B.trans (bx3.mono B.size)
   clear bx3
   go_wp2_with fail
   go_ret
   exact ⟨by rw [HF.out] <;> rfl, B⟩
theorem qt (ks : List Tg) (k : Nat) (h : k < ks.length) : Tg.countL (ks.take (k + 1)) = Tg.countL (ks.take k) + ks[k].count := by
 rw [List.take_succ_eq_append_getElem h, ng]
 simp [Tg.countL]
theorem r6 (t : Tg) : ∀ (v : TV) (w : World), RdT (fun _ => True) w v t → Calls Tryz.prog 17 #[v.val] w fun e w' => e = .returned (.int .i64 (wrap64 (t.count : Int))) ∧ Below w.heap.size w w' := by
 induction t using Tg.ind with
 | h kd da ks r ih =>
 intro v w hr
 have IH := I5 ih
 clear ih
 obtain ⟨⟨cH, ho, cK, dv, dx, dw, fJ, fF⟩, an, hsl, cf, hn, K, ah, hk⟩ := hr.parts
 obtain ⟨ay, aw, ap, av, aA, aS, az, vo, am, ak, aE, aB, aD, ar, aq, aI, aC, aH⟩ := v
 obtain ⟨ro, ⟨li, lo, ll⟩, ⟨hi, mN, hl⟩⟩ := r
 dsimp only [Tg.kd, Tg.r, Tg.da, Tg.ks] at cH ho cK dv dx dw fJ fF an hsl cf hn ah hk
 subst cH ho cK dv dx dw hn
 have fL := I5 an
 have ke := I5 hsl
 have kf := I5 cf
 have HR := I5 ah
 have HK := I5 hk
 have ep := I5 an.1
 have kF := I5 hsl.1
 have kG := I5 cf.1
 have cF := Nat.le_trans an.2.1 an.2.2.1
 have cE := Nat.le_trans ah.1 ah.2.1
 unfold maxLen at cF cE
 clear an hsl cf ah hk hr
 have HC := I5 (show (Tg.mk ay da ks ⟨vo, ⟨am, ak, ll⟩, ⟨ar, aq, hl⟩⟩).count = 1 + Tg.countL ks by simp only [Tg.count])
 generalize (Tg.mk ay da ks ⟨vo, ⟨am, ak, ll⟩, ⟨ar, aq, hl⟩⟩).count = R at *
 let x0 := (w.alloc (.cells #[.int .u8 ay, .slice aw ap av, .slice aA ks.length az, .int .u8 vo, .bool am, .bool ak, .slice aE aB aD, .bool ar, .bool aq, .slice aI aC aH] 29))
 have B : Below w.heap.size w x0 := (Below.refl _ _).alloc (Nat.le_refl _) _
 have X : Hid (Box x0 w.heap.size 29 #[.int .u8 ay, .slice aw ap av, .slice aA ks.length az, .int .u8 vo, .bool am, .bool ak, .slice aE aB aD, .bool ar, .bool aq, .slice aI aC aH]) := I5 (Box.new _ _ _)
 show Calls _ _ #[.agg #[.int .u8 ay, .slice aw ap av, .slice aA ks.length az, .int .u8 vo, .bool am, .bool ak, .slice aE aB aD, .bool ar, .bool aq, .slice aI aC aH]] _ _
 go_enter Tryz.func17, Tryz.ntmps17
 go_upto_region 1 with fail
 change Code.wp _ _ _ _ x0
 clear_value x0
 have q2 := X.out.cell 2 rfl
 go_wp2_with fail
 go_loopw [3, 4, 8] (fun nn _ i wr => ∃ k : Nat, k ≤ ks.length ∧ i = .int .i64 k ∧ nn = .int .i64 (wrap64 ((1 + Tg.countL (ks.take k) : Nat) : Int)) ∧ Below w.heap.size w wr ∧ Box wr w.heap.size 29 #[.int .u8 ay, .slice aw ap av, .slice aA ks.length az, .int .u8 vo, .bool am, .bool ak, .slice aE aB aD, .bool ar, .bool aq, .slice aI aC aH]) (fun _ _ i _ => ks.length - (intOf i).toNat)
 case atStart => exact ⟨0, Nat.zero_le _, rfl, by rw [show wrap64 ((1 + Tg.countL (List.take 0 ks) : Nat) : Int) = 1 from by simp only [List.take_zero, Tg.countL]; unfold wrap64; omega], B, X.out⟩
 case round =>
  clear q2 X B
  obtain ⟨k, fy, rfl, rfl, B, hX⟩ := hrel
  have X := I5 hX
  clear hX
  have q2 := X.out.cell 2 rfl
  by_cases aJ : k < ks.length
  case neg =>
   have fS : ¬ (k : Int) < ks.length := by omega
   have HF : Hid (wrap64 ((1 + Tg.countL (ks.take k) : Nat) : Int) = wrap64 (R : Int)) := I5 (by rw [HC.out, List.take_of_length_le (by omega)])
   generalize wrap64 ((1 + Tg.countL (ks.take k) : Nat) : Int) = n9 at *
   go_wp2_with fail
   go_ret
   exact ⟨by rw [← HF.out] <;> rfl, B⟩
  case pos =>
   have fS : (k : Int) < ks.length := by omega
   have cL : (0 : Int) ≤ k := by omega
   obtain ⟨b, o, rfl, a8⟩ := (HR.out.after B).range aJ
   have fM := I5 a8
   clear a8
   have IH2 := I5 (IH.out _ (List.getElem_mem aJ) (K k) wr ((HK.out k aJ).after B))
   have jy := I5 (qt ks k aJ)
   obtain ⟨c1, o7⟩ : ∃ c, c = ks[k].count := ⟨_, rfl⟩
   rw [← o7] at IH2 jy
   clear o7
   have HW := I5 ((pg ((1 + Tg.countL (ks.take k) : Nat) : Int) (c1 : Int)).trans (show wrap64 (((1 + Tg.countL (ks.take k) : Nat) : Int) + (c1 : Int)) = wrap64 ((1 + Tg.countL (ks.take (k + 1)) : Nat) : Int) by rw [jy.out]; congr 1; omega))
   obtain ⟨n2, gk⟩ : ∃ n, n = wrap64 ((1 + Tg.countL (ks.take (k + 1)) : Nat) : Int) := ⟨_, rfl⟩
   rw [← gk] at HW
   have iu := I5 gk
   clear gk
   generalize wrap64 ((1 + Tg.countL (ks.take k) : Nat) : Int) = n1 at *
   generalize wrap64 (c1 : Int) = n3 at *
   go_wp2_with (refine cC _ rfl b _ rfl _ fM.out rfl ?_)
   refine IH2.out.mono ?_
   rintro e z1 ⟨rfl, af⟩
   replace B := B.trans (af.mono B.size)
   replace X := I5 (X.out.after af)
   clear af IH2 fM
   go_wp2_with fail
   go_roundw
   case rel => exact ⟨k + 1, by omega, by go_num, by rw [← iu.out]; exact congrArg (Value.int .i64) HW.out, B, X.out⟩
   case measure => simp [intOf]; omega
theorem rP (t : Tg) : ∀ (v : TV) (m : Nat) (w : World), RdT (fun _ => True) w v t → m ≤ 61 → Calls Tryz.prog 6 #[v.val, .int .i64 m] w fun e w' => e = .returned (.bool (t.great m)) ∧ Below w.heap.size w w' := by
 induction t using Tg.ind with
 | h kd da ks r ih =>
 intro v m w hr hm
 have IH := I5 ih
 clear ih
 have gU := I5 hr
 obtain ⟨⟨cH, ho, cK, dv, dx, dw, fJ, fF⟩, an, hsl, cf, hn, K, ah, hk⟩ := hr.parts
 obtain ⟨ay, aw, ap, av, aA, aS, az, vo, am, ak, aE, aB, aD, ar, aq, aI, aC, aH⟩ := v
 obtain ⟨ro, ⟨li, lo, ll⟩, ⟨hi, mN, hl⟩⟩ := r
 dsimp only [Tg.kd, Tg.r, Tg.da, Tg.ks] at cH ho cK dv dx dw fJ fF an hsl cf hn ah hk
 subst cH ho cK dv dx dw hn
 have fL := I5 an
 have ke := I5 hsl
 have kf := I5 cf
 have HR := I5 ah
 have HK := I5 hk
 have ep := I5 an.1
 have kF := I5 hsl.1
 have kG := I5 cf.1
 have cF := Nat.le_trans an.2.1 an.2.2.1
 have cE := Nat.le_trans ah.1 ah.2.1
 unfold maxLen at cF cE
 clear an hsl cf ah hk hr
 have tC := I5 (kJ ay da ks ⟨vo, ⟨am, ak, ll⟩, ⟨ar, aq, hl⟩⟩ m)
 rw [show decide (5000 < da.length) = decide (5000 < ap) by rw [ep.out], show wideR ⟨vo, ⟨am, ak, ll⟩, ⟨ar, aq, hl⟩⟩ = (decide (200 < aB) || decide (200 < aC)) by unfold wideR; rw [← kF.out, ← kG.out]] at tC
 have xI := I5 (fun h => ms (t := .mk ay da ks ⟨vo, ⟨am, ak, ll⟩, ⟨ar, aq, hl⟩⟩) (m := m) h)
 have BO := I5 (fun h1 h2 => rN (t := .mk ay da ks ⟨vo, ⟨am, ak, ll⟩, ⟨ar, aq, hl⟩⟩) (m := m) h1 h2)
 have BN := I5 (fun h => lf (t := .mk ay da ks ⟨vo, ⟨am, ak, ll⟩, ⟨ar, aq, hl⟩⟩) h)
 have CG := I5 (fun w' => lr vo am ak aE aB aD ar aq aI aC aH w')
 have CC := I5 (fun w' (h : Below w.heap.size w w') => r6 (.mk ay da ks ⟨vo, ⟨am, ak, ll⟩, ⟨ar, aq, hl⟩⟩) ⟨ay, aw, ap, av, aA, ks.length, az, vo, am, ak, aE, aB, aD, ar, aq, aI, aC, aH⟩ w' (gU.out.after h))
 obtain ⟨g9, Ex⟩ : ∃ g, g = (decide (200 < aB) || decide (200 < aC)) := ⟨_, rfl⟩
 rw [← Ex] at tC
 simp only [← Ex] at CG
 clear Ex
 let x0 := (w.alloc (.cells #[.int .u8 ay, .slice aw ap av, .slice aA ks.length az, .int .u8 vo, .bool am, .bool ak, .slice aE aB aD, .bool ar, .bool aq, .slice aI aC aH] 29))
 have B : Below w.heap.size w x0 := (Below.refl _ _).alloc (Nat.le_refl _) _
 have X : Hid (Box x0 w.heap.size 29 #[.int .u8 ay, .slice aw ap av, .slice aA ks.length az, .int .u8 vo, .bool am, .bool ak, .slice aE aB aD, .bool ar, .bool aq, .slice aI aC aH]) := I5 (Box.new _ _ _)
 show Calls _ _ #[.agg #[.int .u8 ay, .slice aw ap av, .slice aA ks.length az, .int .u8 vo, .bool am, .bool ak, .slice aE aB aD, .bool ar, .bool aq, .slice aI aC aH], .int .i64 m] _ _
 go_enter Tryz.func6, Tryz.ntmps6
 go_upto_region 1 with fail
 change Code.wp _ _ _ _ x0
 clear_value x0
 have q1 := X.out.cell 1 rfl
 have q2 := X.out.cell 2 rfl
 by_cases h1 : 60 < m
 case pos =>
  have HF := I5 (xI.out (by rw [tC.out]; simp [h1]))
  clear tC xI BO BN
  have h1i : (60 : Int) < m := by omega
  go_wp2_with fail
  go_ret
  exact ⟨by rw [HF.out] <;> rfl, B⟩
 by_cases h2 : 700 < ks.length
 case pos =>
  have HF := I5 (xI.out (by rw [tC.out]; simp [h2]))
  clear tC xI BO BN
  have h1i : ¬ (60 : Int) < m := by omega
  have h2i : (700 : Int) < ks.length := by omega
  go_wp2_with fail
  go_ret
  exact ⟨by rw [HF.out] <;> rfl, B⟩
 by_cases h3 : 5000 < ap
 case pos =>
  have HF := I5 (xI.out (by rw [tC.out]; simp [h3]))
  clear tC xI BO BN
  have h1i : ¬ (60 : Int) < m := by omega
  have h2i : ¬ (700 : Int) < ks.length := by omega
  have h3i : (5000 : Int) < ap := by omega
  go_wp2_with fail
  go_ret
  exact ⟨by rw [HF.out] <;> rfl, B⟩
 have h1i : ¬ (60 : Int) < m := by omega
 have h2i : ¬ (700 : Int) < ks.length := by omega
 have h3i : ¬ (5000 : Int) < ap := by omega
 go_wp2_with (refine ai rfl 27 _ rfl _ 3 rfl [.int .u8 vo, .bool am, .bool ak, .slice aE aB aD, .bool ar, .bool aq, .slice aI aC aH] _ (Box.midR X.out 3 [.int .u8 vo, .bool am, .bool ak, .slice aE aB aD, .bool ar, .bool aq, .slice aI aC aH] rfl) Tryz.underlying27 rfl (by kernel_rfl) ?_)
 refine (CG.out x0).mono ?_
 rintro e x1 ⟨rfl, bx1⟩
 replace X := I5 (X.out.after bx1)
 replace B := B.trans (bx1.mono B.size)
 clear bx1
 clear CG
 cases g9 with
 | true =>
  have HF := I5 (xI.out (by rw [tC.out]; simp))
  clear tC xI BO BN
  go_wp2_with fail
  go_ret
  exact ⟨by rw [HF.out] <;> rfl, B⟩
 | false =>
  have zp : Hid (_ = Tg.wideL ks (m + 1)) := I5 (tC.out.trans (by rw [decide_eq_false h1, decide_eq_false h2, decide_eq_false h3]; rfl))
  clear tC
  have q2 := X.out.cell 2 rfl
  have yL : (m : Int) + 1 ≤ 62 := by omega
  go_wp2_with fail
  go_loopw [5, 28] (fun _ i wr => ∃ k : Nat, k ≤ ks.length ∧ i = .int .i64 k ∧ Hid (Tg.wideL (ks.take k) (m + 1) = false) ∧ Below w.heap.size w wr ∧ Box wr w.heap.size 29 #[.int .u8 ay, .slice aw ap av, .slice aA ks.length az, .int .u8 vo, .bool am, .bool ak, .slice aE aB aD, .bool ar, .bool aq, .slice aI aC aH]) (fun _ i _ => ks.length - (intOf i).toNat)
  case atStart => exact ⟨0, Nat.zero_le _, rfl, I5 rfl, B, X.out⟩
  case round =>
   clear q2 X B
   obtain ⟨k, fy, rfl, gy, B, hX⟩ := hrel
   have X := I5 hX
   clear hX
   have q2 := X.out.cell 2 rfl
   by_cases aJ : k < ks.length
   case neg =>
    have fS : ¬ (k : Int) < ks.length := by omega
    have Fb := I5 (zp.out.trans (show Tg.wideL ks (m + 1) = false by rw [← gy.out, List.take_of_length_le (by omega)]))
    clear zp gy
    by_cases Cn : m = 0
    case neg =>
     have ID : ((m : Int) == 0) = false := by simp; omega
     have HF := I5 (BO.out (by omega) Fb.out)
     go_wp2_with fail
     go_ret
     exact ⟨by rw [HF.out] <;> rfl, B⟩
    subst Cn
    have HF := I5 (BN.out Fb.out)
    clear xI BO BN Fb
    generalize wrap64 ((Tg.mk ay da ks ⟨vo, ⟨am, ak, ll⟩, ⟨ar, aq, hl⟩⟩).count : Int) = n9 at *
    go_wp2_with (refine ab rfl 29 _ rfl X.out (by rfl) Tryz.underlying29 rfl (by kernel_rfl) ?_)
    refine (CC.out wr B).mono ?_
    rintro e x2 ⟨rfl, bx2⟩
    replace X := I5 (X.out.after bx2)
    replace B := B.trans (bx2.mono B.size)
    clear bx2
    go_wp2_with fail
    go_ret
    exact ⟨by rw [HF.out] <;> rfl, B⟩
   case pos =>
    have fS : (k : Int) < ks.length := by omega
    have cL : (0 : Int) ≤ k := by omega
    obtain ⟨b, o, rfl, a8⟩ := (HR.out.after B).range aJ
    have fM := I5 a8
    clear a8
    obtain ⟨ck, fT⟩ : ∃ ck, ck = ks[k].great (m + 1) := ⟨_, rfl⟩
    have IH2 := IH.out _ (List.getElem_mem aJ) (K k) (m + 1) wr ((HK.out k aJ).after B) (by omega)
    rw [← fT, show ((m + 1 : Nat) : Int) = (m : Int) + 1 by omega] at IH2
    rw [rO] at fT
    replace IH2 := I5 IH2
    have gQ := I5 fT
    clear fT
    have jy := I5 (pm ks (m + 1) k aJ)
    go_wp2_with (refine cC _ rfl b _ rfl _ fM.out rfl ?_)
    refine IH2.out.mono ?_
    rintro e z1 ⟨rfl, af⟩
    replace B := B.trans (af.mono B.size)
    replace X := I5 (X.out.after af)
    clear af IH2 fM
    cases ck with
    | true =>
     have HF := I5 (xI.out (zp.out.trans (lE (List.getElem_mem aJ) gQ.out.symm)))
     go_wp2_with fail
     go_ret
     exact ⟨by rw [HF.out] <;> rfl, B⟩
    | false =>
     go_wp2_with fail
     go_roundw
     case rel => exact ⟨k + 1, by omega, by go_num, I5 (by rw [jy.out, gy.out, ← gQ.out]; rfl), B, X.out⟩
     case measure => simp [intOf]; omega
end Go.Proofs.YtmmkaclmgnpplaaGreatDoor

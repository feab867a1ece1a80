import Derived.Test.YtmmkaclmgnpplaaGreatDoorMz28
set_option maxRecDepth 100000
set_option maxHeartbeats 64000000
set_option linter.unusedSimpArgs false
set_option linter.unusedVariables false
namespace Go.Proofs.YtmmkaclmgnpplaaGreatDoor
open Go.RowKit
theorem Sl.takeT {w : World} {a : Option Addr} {n c : Nat} {l : List UInt8} (h : Sl w a n c l) {m : Nat} (hm : m ≤ n) : Sl w a m c (l.take m) := by
 obtain ⟨h1, h2, h3, h4, h5⟩ := h
 refine ⟨by simp; omega, by omega, h3, h4, ?_⟩
 rcases h5 with h5 | ⟨b, o, rfl, h5⟩
 ·exact .inl (by omega)
 ·refine .inr ⟨b, o, rfl, fun i hi => ?_⟩
  have := h5 i (by omega)
  rw [this]
  simp [List.getD_eq_getElem?_getD, List.getElem?_take, hi]
theorem jh (a : Option Addr) (n c : Nat) (l : List UInt8) (b : Option Addr) (m d : Nat) (f : List UInt8) (w : World) (hs : Sl w a n c l) (aO : Sl w b m d f) :
  Calls Tryz.prog 59 #[.slice a n c, .slice b m d] w fun e w' => e = .returned (.bool (prefB l f)) ∧ Below w.heap.size w w' := by
 have hn := hs.1
 have hm := aO.1
 have ie := hs.2.1
 have ea := Nat.le_trans hs.2.1 hs.2.2.1
 have qb := Nat.le_trans aO.2.1 aO.2.2.1
 unfold maxLen at ea qb
 have HS := I5 hs
 have mJ := I5 aO
 clear hs aO
 have HN := I5 hn
 have HM := I5 hm
 clear hn hm
 by_cases aJ : m ≤ n
 case neg =>
  have HF : Hid (prefB l f = false) := I5 (by unfold prefB; rw [decide_eq_false (by have := HN.out; have := HM.out; omega)]; rfl)
  have cK : ¬ (m : Int) ≤ n := by omega
  go_enter Tryz.func59, Tryz.ntmps59
  go_wp2_with fail
  go_ret
  exact ⟨by rw [HF.out]; rfl, Below.refl _ _⟩
 have HF : Hid (prefB l f = (l.take m == f)) := I5 (by unfold prefB; rw [decide_eq_true (by have := HN.out; have := HM.out; omega), ← HM.out]; rfl)
 have cK : (m : Int) ≤ n := by omega
 have AG : (m : Int) ≤ c := by omega
 have CE := I5 (j0 a m c (l.take m) b m d f w (HS.out.takeT aJ) mJ.out)
 have Cn : (0 : Int) ≤ m := by omega
 go_enter Tryz.func59, Tryz.ntmps59
 go_wp2_with fail
 refine CE.out.mono ?_
 rintro e w1 ⟨rfl, af⟩
 go_wp2_with fail
 go_ret
 exact ⟨by rw [HF.out] <;> rfl, af⟩
theorem kK (ay : Nat) (aw : Option Addr) (ap av : Nat) (aA : Option Addr) (aS az : Nat) (vo : Nat) (am ak : Bool) (aE : Option Addr) (aB aD : Nat) (iw : List UInt8) (ar aq : Bool) (aI : Option Addr) (aC aH : Nat) (ix : List UInt8) (da : List UInt8) (ba : Option Addr) (bn bc : Nat) (bl : List UInt8) (w : World) (hs : Sl w aw ap av da) (an : Sl w aE aB aD iw) (ig : aB ≤ 6000) (aO : Sl w aI aC aH ix) (gk : aC ≤ 6000) (gV : Sl w ba bn bc bl) (ut : bn ≤ 6000) :
  Calls Tryz.prog 43 #[.agg #[.int .u8 ay, .slice aw ap av, .slice aA aS az, .int .u8 vo, .bool am, .bool ak, .slice aE aB aD, .bool ar, .bool aq, .slice aI aC aH], .slice ba bn bc] w fun e w' => e = .returned (.bool (Tg.takes ay da ⟨vo, ⟨am, ak, iw⟩, ⟨ar, aq, ix⟩⟩ bl)) ∧ Below w.heap.size w w' := by
 have HS := I5 hs
 have fL := I5 an
 have mJ := I5 aO
 have Be := I5 gV
 have HD := I5 (show Tg.takes ay da ⟨vo, ⟨am, ak, iw⟩, ⟨ar, aq, ix⟩⟩ bl = (if ay = 2 then da == bl else if ay = 5 then prefB bl da else decide (ay = 6) && inB ⟨vo, ⟨am, ak, iw⟩, ⟨ar, aq, ix⟩⟩ bl) from rfl)
 generalize Tg.takes ay da ⟨vo, ⟨am, ak, iw⟩, ⟨ar, aq, ix⟩⟩ bl = R at *
 clear hs an aO gV
 let x0 := (w.alloc (.cells #[.int .u8 ay, .slice aw ap av, .slice aA aS az, .int .u8 vo, .bool am, .bool ak, .slice aE aB aD, .bool ar, .bool aq, .slice aI aC aH] 29))
 have B : Below w.heap.size w x0 := (Below.refl _ _).alloc (Nat.le_refl _) _
 have X : Hid (Box x0 w.heap.size 29 #[.int .u8 ay, .slice aw ap av, .slice aA aS az, .int .u8 vo, .bool am, .bool ak, .slice aE aB aD, .bool ar, .bool aq, .slice aI aC aH]) := I5 (Box.new _ _ _)
 show Calls _ _ #[.agg #[.int .u8 ay, .slice aw ap av, .slice aA aS az, .int .u8 vo, .bool am, .bool ak, .slice aE aB aD, .bool ar, .bool aq, .slice aI aC aH], .slice ba bn bc] _ _
 go_enter Tryz.func43, Tryz.ntmps43
 go_upto_region 1 with fail
 change Code.wp _ _ _ _ x0
 clear_value x0
 have q0 := X.out.cell 0 rfl
 have q1 := X.out.cell 1 rfl
 by_cases h2 : ay = 2
 case pos =>
  subst h2
  have HF : Hid (R = (da == bl)) := HD
  clear HD
  go_wp2_with fail
  refine (j0 aw ap av da ba bn bc bl x0 (HS.out.after B) (Be.out.after B)).mono ?_
  rintro e x1 ⟨rfl, bx1⟩
  replace X := I5 (X.out.after bx1)
  replace B := B.trans (bx1.mono B.size)
  clear bx1
  go_wp2_with fail
  go_ret
  exact ⟨by rw [HF.out] <;> rfl, B⟩
 have t2 : ((ay : Int) == 2) = false := by simp; omega
 by_cases h5 : ay = 5
 case pos =>
  subst h5
  have HF : Hid (R = prefB bl da) := HD
  clear HD
  go_wp2_with fail
  refine (jh ba bn bc bl aw ap av da x0 (Be.out.after B) (HS.out.after B)).mono ?_
  rintro e x1 ⟨rfl, bx1⟩
  replace X := I5 (X.out.after bx1)
  replace B := B.trans (bx1.mono B.size)
  clear bx1
  go_wp2_with fail
  go_ret
  exact ⟨by rw [HF.out] <;> rfl, B⟩
 have t5 : ((ay : Int) == 5) = false := by simp; omega
 have iY : Hid (R = (decide (ay = 6) && inB ⟨vo, ⟨am, ak, iw⟩, ⟨ar, aq, ix⟩⟩ bl)) := I5 (by rw [HD.out, if_neg h2, if_neg h5])
 clear HD h2 h5
 by_cases h6 : ay = 6
 case neg =>
  have t6 : ((ay : Int) == 6) = false := by simp; omega
  have HF : Hid (R = false) := I5 (by rw [iY.out, decide_eq_false h6]; rfl)
  clear iY h6
  go_wp2_with fail
  go_ret
  exact ⟨by rw [HF.out]; rfl, B⟩
 subst h6
 have HF : Hid (R = inB ⟨vo, ⟨am, ak, iw⟩, ⟨ar, aq, ix⟩⟩ bl) := I5 (by rw [iY.out, decide_eq_true rfl]; rfl)
 clear iY t2 t5
 go_wp2_with (refine ai rfl 27 _ rfl _ 3 rfl [.int .u8 vo, .bool am, .bool ak, .slice aE aB aD, .bool ar, .bool aq, .slice aI aC aH] _ (Box.midR X.out 3 [.int .u8 vo, .bool am, .bool ak, .slice aE aB aD, .bool ar, .bool aq, .slice aI aC aH] rfl) Tryz.underlying27 rfl (by kernel_rfl) ?_)
 refine (As vo am ak aE aB aD iw ar aq aI aC aH ix ba bn bc bl x0 (fL.out.after B) ig (mJ.out.after B) gk (Be.out.after B) ut).mono ?_
 rintro e x1 ⟨rfl, bx1⟩
 replace X := I5 (X.out.after bx1)
 replace B := B.trans (bx1.mono B.size)
 clear bx1
 go_wp2_with fail
 go_ret
 exact ⟨by rw [HF.out] <;> rfl, B⟩
def AnsAl (ks : List Tg) (K : Nat → TV) (g : Nat) (f : Tg → Bool) (w : World) : Prop := ∀ i (h : i < ks.length) w', Below w.heap.size w w' → Calls Tryz.prog 42 #[(K i).val, .pointer (some ⟨g, 0, none⟩)] w' fun e w'' => e = .returned (.bool (f ks[i])) ∧ Below w'.heap.size w' w''
theorem ui (a : Option Addr) (n c : Nat) (K : Nat → TV) (ks : List Tg) (g : Nat) (f : Tg → Bool) (w : World) (hr : RowT w a n c K) (i9 : n = ks.length) (he : AnsAl ks K g f w) :
  Calls Tryz.prog 77 #[.slice a n c, .func (.func 42) #[] #[.pointer (some ⟨g, 0, none⟩)]] w fun e w' => (∃ r : Int, e = .returned (.int .i64 r) ∧ decide (0 ≤ r) = ks.any f) ∧ Below w.heap.size w w' := by
 have HR := I5 hr
 have HL := I5 i9
 have HE := I5 he
 have hn : (n : Int) ≤ 9223372036854775807 := by have h2 := hr.1; have h3 := hr.2.1; unfold maxLen at h3; omega
 clear hr i9 he
 go_enter Tryz.func77, Tryz.ntmps77
 go_wp2_with fail
 go_loopw [8] (fun i wr => ∃ k : Nat, k ≤ n ∧ i = .int .i64 k ∧ Hid ((ks.take k).any f = false) ∧ Below w.heap.size w wr) (fun i _ => n - (intOf i).toNat)
 case atStart => exact ⟨0, Nat.zero_le _, rfl, I5 rfl, Below.refl _ _⟩
 case round =>
  obtain ⟨k, hk, rfl, gy, hb⟩ := hrel
  by_cases aJ : k < n
  case neg =>
   have fS : ¬ (k : Int) < n := by omega
   go_wp2_with fail
   go_ret
   exact ⟨⟨-1, rfl, by have h := gy.out; rw [List.take_of_length_le (by have := HL.out; omega)] at h; rw [h]; rfl⟩, hb⟩
  case pos =>
   have fS : (k : Int) < n := by omega
   have fy : k < ks.length := by have := HL.out; omega
   obtain ⟨b, o, rfl, a8⟩ := (HR.out.after hb).range aJ
   have fM := I5 a8
   have HC := I5 (HE.out k fy wr hb)
   have zq : Hid ((ks.take (k + 1)).any f = f (ks[k]'fy)) := I5 (by rw [iS _ _ _ fy, gy.out]; rfl)
   have Dm : Hid (f (ks[k]'fy) = true → ks.any f = true) := I5 (fun h => List.any_eq_true.2 ⟨_, List.getElem_mem fy, h⟩)
   generalize f (ks[k]'fy) = gx at *
   have cL : (0 : Int) ≤ k := by omega
   clear a8
   go_wp2_with (refine cD rfl _ rfl b _ rfl _ fM.out ?_)
   refine HC.out.mono ?_
   rintro e w1 ⟨rfl, af⟩
   have aK := hb.trans (af.mono hb.size)
   clear af fM
   cases gx with
   | true =>
    go_wp2_with fail
    go_ret
    exact ⟨⟨k, rfl, by rw [Dm.out (by trivial)]; simp⟩, aK⟩
   | false =>
    go_wp2_with fail
    go_roundw
    case rel => exact ⟨k + 1, by omega, by go_num, zq, aK⟩
    case measure => simp [intOf] <;> omega
theorem uP (a : Option Addr) (n c : Nat) (K : Nat → TV) (ks : List Tg) (g : Nat) (f : Tg → Bool) (w : World) (hr : RowT w a n c K) (i9 : n = ks.length) (he : AnsAl ks K g f w) :
  Calls Tryz.prog 41 #[.slice a n c, .func (.func 42) #[] #[.pointer (some ⟨g, 0, none⟩)]] w fun e w' => e = .returned (.bool (ks.any f)) ∧ Below w.heap.size w w' := by
 have HI := I5 (ui a n c K ks g f w hr i9 he)
 clear hr i9 he
 go_enter Tryz.func41, Tryz.ntmps41
 go_wp2_with fail
 refine HI.out.mono ?_
 rintro e w1 ⟨⟨r, rfl, hr⟩, hb⟩
 have HR := I5 hr
 clear hr
 go_wp2_with fail
 go_ret
 exact ⟨by rw [← HR.out]; rfl, hb⟩
theorem sp (v : TV) (u : SV) (g : Nat) (r : Bool) (w : World) (hc : Box w g 32 u.cells)
  (H : ∀ w', Below w.heap.size w w' → Calls Tryz.prog 22 #[v.val, u.val] w' fun e w'' => e = .returned (.bool r) ∧ Below w'.heap.size w' w'') :
  Calls Tryz.prog 42 #[v.val, .pointer (some ⟨g, 0, none⟩)] w fun e w' => e = .returned (.bool r) ∧ Below w.heap.size w w' := by
 obtain ⟨ay, aw, ap, av, aA, aS, az, vo, am, ak, aE, aB, aD, ar, aq, aI, aC, aH⟩ := v
 obtain ⟨ul, uh, gB, gz, gA, gT, gR, fZ, GT, GR, GS⟩ := u
 let x0 := (w.alloc (.cells #[.int .u8 ay, .slice aw ap av, .slice aA aS az, .int .u8 vo, .bool am, .bool ak, .slice aE aB aD, .bool ar, .bool aq, .slice aI aC aH] 29))
 have hb : Below w.heap.size w x0 := (Below.refl _ _).alloc (Nat.le_refl _) _
 have HX : Hid (Box x0 w.heap.size 29 #[.int .u8 ay, .slice aw ap av, .slice aA aS az, .int .u8 vo, .bool am, .bool ak, .slice aE aB aD, .bool ar, .bool aq, .slice aI aC aH]) := I5 (Box.new _ _ _)
 have HU : Hid (Box x0 g 32 #[.bool ul, .bool uh, .slice gB gz gA, .slice gT gR fZ, .slice GT GR GS]) := I5 (hc.after hb)
 have HC := I5 (H _ hb)
 clear H hc
 show Calls _ _ #[.agg #[.int .u8 ay, .slice aw ap av, .slice aA aS az, .int .u8 vo, .bool am, .bool ak, .slice aE aB aD, .bool ar, .bool aq, .slice aI aC aH], .pointer (some ⟨g, 0, none⟩)] _ _
 go_enter Tryz.func42, Tryz.ntmps42
 go_upto_region 1 with fail
 change Code.wp _ _ _ _ x0
 clear_value x0
 go_wp2_with first | (refine ab rfl 29 _ rfl HX.out (by rfl) Tryz.underlying29 rfl (by kernel_rfl) ?_) | (refine ab rfl 32 _ rfl HU.out (by rfl) Tryz.underlying32 rfl (by kernel_rfl) ?_)
 refine HC.out.mono ?_
 rintro e w1 ⟨rfl, af⟩
 have aK := hb.trans (af.mono hb.size)
 go_wp2_with fail
 go_ret
 exact ⟨rfl, aK⟩
theorem so (t : Tg) : ∀ (s : Sx) (v : TV) (u : SV) (m q : Nat) (w : World), RdT (fun _ => True) w v t → Rd w u s → t.wide m = false → s.wide q = false → True → Calls Tryz.prog 22 #[v.val, u.val] w fun e w' => e = .returned (.bool (t.allows s)) ∧ Below w.heap.size w w' := by
 induction t using Tg.ind with
 | h kd da ks r ih =>
 intro s v u m q w hr hru hw un hm
 have IH := I5 ih
 clear ih
 obtain ⟨_, g2, g3, g4, g5, g6⟩ := cy hw
 have HG := I5 g6
 clear g6 hw
 have gU := I5 hr
 have zr := I5 hru
 obtain ⟨⟨cH, ho, cK, dv, dx, dw, fJ, fF⟩, an, hsl, cf, hn, K, ah, hk⟩ := hr.parts
 obtain ⟨ay, aw, ap, av, aA, aS, az, vo, am, ak, aE, aB, aD, ar, aq, aI, aC, aH⟩ := v
 obtain ⟨ro, ⟨li, lo, ll⟩, ⟨hi, mN, hl⟩⟩ := r
 dsimp only [Tg.kd, Tg.r, Tg.da, Tg.ks] at cH ho cK dv dx dw fJ fF an hsl cf hn ah hk
 subst cH ho cK dv dx dw hn
 have fL := I5 an
 have ke := I5 hsl
 have kf := I5 cf
 have HR := I5 ah
 have HK := I5 hk
 have ep := I5 an.1
 have kF := I5 hsl.1
 have kG := I5 cf.1
 have cF := Nat.le_trans an.2.1 an.2.2.1
 have cE := Nat.le_trans ah.1 ah.2.1
 unfold maxLen at cF cE
 clear an hsl cf ah hk hr
 obtain ⟨sl0, sh0, fg, sda, vs⟩ := s
 obtain ⟨_, w2, _, w4, w5⟩ := jC un
 have zn := I5 un
 have Ba := I5 w5
 clear w5 un
 obtain ⟨eQ, fK, an, aO, uq, Ay, wC, KU, mi, Av⟩ := hru.parts
 obtain ⟨sl, sh, cv, cq, cr, co, ci, cn, cu, cI, cj⟩ := u
 dsimp only at uq Ay wC mi Av eQ fK an aO
 obtain rfl : sl = sl0 := eQ
 obtain rfl : sh = sh0 := fK
 replace uq : cI = vs.length := uq
 subst uq
 have Bc := I5 aO
 have Bb := I5 aO.1
 have Fd := I5 mi
 have Fe := I5 Av
 unfold maxLen at wC
 clear an aO mi Av hru
 have HD := I5 (mI ay da ks ⟨vo, ⟨am, ak, ll⟩, ⟨ar, aq, hl⟩⟩ (.mk sl sh fg sda vs))
 generalize (Tg.mk ay da ks ⟨vo, ⟨am, ak, ll⟩, ⟨ar, aq, hl⟩⟩).allows (.mk sl sh fg sda vs) = R at *
 unfold SV.val
 let x0 := ((w.alloc (.cells #[.int .u8 ay, .slice aw ap av, .slice aA ks.length az, .int .u8 vo, .bool am, .bool ak, .slice aE aB aD, .bool ar, .bool aq, .slice aI aC aH] 29)).alloc (.cells #[.bool sl, .bool sh, .slice cv cq cr, .slice co ci cn, .slice cu vs.length cj] 32))
 have B : Below w.heap.size w x0 := ((Below.refl _ _).alloc (Nat.le_refl _) _).alloc (by simp [x0, x0]) _
 have X : Hid (Box x0 w.heap.size 29 #[.int .u8 ay, .slice aw ap av, .slice aA ks.length az, .int .u8 vo, .bool am, .bool ak, .slice aE aB aD, .bool ar, .bool aq, .slice aI aC aH]) := I5 ((Box.new _ _ _).alloc _)
 have Y : Hid (Box x0 (w.heap.size + 1) 32 #[.bool sl, .bool sh, .slice cv cq cr, .slice co ci cn, .slice cu vs.length cj]) := I5 (by
  have := Box.new (w.alloc (.cells #[.int .u8 ay, .slice aw ap av, .slice aA ks.length az, .int .u8 vo, .bool am, .bool ak, .slice aE aB aD, .bool ar, .bool aq, .slice aI aC aH] 29)) 32 #[.bool sl, .bool sh, .slice cv cq cr, .slice co ci cn, .slice cu vs.length cj]
  simpa [x0] using this)
 show Calls _ _ #[.agg #[.int .u8 ay, .slice aw ap av, .slice aA ks.length az, .int .u8 vo, .bool am, .bool ak, .slice aE aB aD, .bool ar, .bool aq, .slice aI aC aH], .agg #[.bool sl, .bool sh, .slice cv cq cr, .slice co ci cn, .slice cu vs.length cj]] _ _
 go_enter Tryz.func22, Tryz.ntmps22
 go_upto_region 1 with fail
 change Code.wp _ _ _ _ x0
 clear_value x0
 have q0 := X.out.cell 0 rfl
 by_cases h1 : ay = 1
 case pos =>
  subst h1
  have HF : Hid (R = true) := HD
  clear HD
  go_wp2_with fail
  go_ret
  exact ⟨by rw [HF.out]; rfl, B⟩
 have t1 : ((ay : Int) == 1) = false := by simp; omega
 by_cases h4 : ay = 4
 case pos =>
  subst h4
  have HF : Hid (R = ks.any (fun x => x.allows (.mk sl sh fg sda vs))) := I5 (by rw [← nk]; exact HD.out)
  clear HD
  have q2 := X.out.cell 2 rfl
  have HA : Hid (AnsAl ks K (w.heap.size + 1) (fun x => x.allows (.mk sl sh fg sda vs)) x0) := I5 (fun i hi w' hw => sp (K i) ⟨sl, sh, cv, cq, cr, co, ci, cn, cu, vs.length, cj⟩ (w.heap.size + 1) (ks[i].allows (.mk sl sh fg sda vs)) w' (Y.out.after hw) (fun w2 oO => IH.out _ (List.getElem_mem hi) (.mk sl sh fg sda vs) (K i) ⟨sl, sh, cv, cq, cr, co, ci, cn, cu, vs.length, cj⟩ (m + 1) q w2 (((HK.out i hi).after (B.trans (hw.mono B.size))).after oO) ((zr.out.after (B.trans (hw.mono B.size))).after oO) (HG.out _ (List.getElem_mem hi)) zn.out (by omega)))
  go_wp2_with fail
  refine (uP aA ks.length az K ks (w.heap.size + 1) (fun x => x.allows (.mk sl sh fg sda vs)) x0 (HR.out.after B) rfl HA.out).mono ?_
  rintro e w5 ⟨rfl, hb5⟩
  have B5 := B.trans (hb5.mono B.size)
  go_wp2_with fail
  go_ret
  exact ⟨by rw [HF.out] <;> rfl, B5⟩
 have t4 : ((ay : Int) == 4) = false := by simp; omega
 by_cases h3 : ay = 3
 case neg =>
  have t3 : ((ay : Int) == 3) = false := by simp; omega
  have iY : Hid (R = (!sl && Tg.takes ay da ⟨vo, ⟨am, ak, ll⟩, ⟨ar, aq, hl⟩⟩ sda)) := I5 (by rw [HD.out, if_neg h1, if_neg h4, if_neg h3]; rfl)
  clear HD h1 h4 h3
  have y0 := Y.out.cell 0 rfl
  have y3 := Y.out.cell 3 rfl
  cases sl with
  | true =>
   have HF : Hid (R = false) := I5 (by rw [iY.out]; rfl)
   go_wp2_with fail
   go_ret
   exact ⟨by rw [HF.out]; rfl, B⟩
  | false =>
   have HF : Hid (R = Tg.takes ay da ⟨vo, ⟨am, ak, ll⟩, ⟨ar, aq, hl⟩⟩ sda) := I5 (by rw [iY.out]; rfl)
   clear iY
   go_wp2_with (refine ab rfl 29 _ rfl X.out (by rfl) Tryz.underlying29 rfl (by kernel_rfl) ?_)
   refine (kK ay aw ap av aA ks.length az vo am ak aE aB aD ll ar aq aI aC aH hl da co ci cn sda x0 (fL.out.after B) (ke.out.after B) (by have := kF.out; (try dsimp only at g4); omega) (kf.out.after B) (by have := kG.out; (try dsimp only at g5); omega) (Bc.out.after B) (by have := Bb.out; omega)).mono ?_
   rintro e x1 ⟨rfl, bx1⟩
   replace X := I5 (X.out.after bx1)
   replace Y := I5 (Y.out.after bx1)
   replace B := B.trans (bx1.mono B.size)
   clear bx1
   go_wp2_with fail
   go_ret
   exact ⟨by rw [HF.out] <;> rfl, B⟩
 subst h3
 have iY : Hid (R = (sl && decide (ks.length ≤ vs.length) && Tg.eachA ks vs)) := HD
 clear HD h1 h4 t1 t4
 have y0 := Y.out.cell 0 rfl
 have y4 := Y.out.cell 4 rfl
 have q2 := X.out.cell 2 rfl
 cases sl with
 | false =>
  have HF : Hid (R = false) := I5 (by rw [iY.out]; rfl)
  go_wp2_with fail
  go_ret
  exact ⟨by rw [HF.out]; rfl, B⟩
 | true =>
  by_cases yM : ks.length ≤ vs.length
  case neg =>
   have HF : Hid (R = false) := I5 (by rw [iY.out, decide_eq_false yM]; rfl)
   have cK : (vs.length : Int) < ks.length := by omega
   go_wp2_with fail
   go_ret
   exact ⟨by rw [HF.out]; rfl, B⟩
  have Bk : Hid (R = Tg.eachA ks vs) := I5 (by rw [iY.out, decide_eq_true yM]; rfl)
  clear iY
  have cK : ¬ (vs.length : Int) < ks.length := by omega
  go_wp2_with fail
  go_loopw [34] (fun i wr => ∃ k : Nat, k ≤ ks.length ∧ i = .int .i64 k ∧ Hid (∀ j (h : j < k) (h2 : j < ks.length), ks[j].allows (vs[j]'(by omega)) = true) ∧ Below w.heap.size w wr ∧ Box wr w.heap.size 29 #[.int .u8 (3 : Nat), .slice aw ap av, .slice aA ks.length az, .int .u8 vo, .bool am, .bool ak, .slice aE aB aD, .bool ar, .bool aq, .slice aI aC aH] ∧ Box wr (w.heap.size + 1) 32 #[.bool true, .bool sh, .slice cv cq cr, .slice co ci cn, .slice cu vs.length cj]) (fun i _ => ks.length - (intOf i).toNat)
  case atStart => exact ⟨0, Nat.zero_le _, rfl, I5 (fun j h => absurd h (Nat.not_lt_zero _)), B, X.out, Y.out⟩
  case round =>
   clear q0 q2 y0 y4 X Y B
   obtain ⟨k, fy, rfl, hall, B, hX, hY⟩ := hrel
   have X := I5 hX
   have Y := I5 hY
   clear hX hY
   by_cases aJ : k < ks.length
   case neg =>
    have fS : ¬ (k : Int) < ks.length := by omega
    have HF : Hid (R = true) := I5 (by rw [Bk.out]; exact (kU yM).2 fun j hj => hall.out j (by omega) hj)
    clear hall Bk
    go_wp2_with fail
    go_ret
    exact ⟨by rw [HF.out]; rfl, B⟩
   case pos =>
    have fS : (k : Int) < ks.length := by omega
    have Er : (k : Int) < vs.length := by omega
    have mm : k < vs.length := by omega
    have cL : (0 : Int) ≤ k := by omega
    obtain ⟨b, o, rfl, a8⟩ := (HR.out.after B).range aJ
    obtain ⟨b2, o2, rfl, ij⟩ := (Fd.out.after B).range mm
    obtain ⟨ck, fT⟩ : ∃ ck, ck = ks[k].allows (vs[k]'mm) := ⟨_, rfl⟩
    have IH2 := I5 (fun w2 h1 h2 => IH.out _ (List.getElem_mem aJ) (vs[k]'mm) (K k) (KU k) (m + 1) (q + 1) w2 h1 h2 (HG.out _ (List.getElem_mem aJ)) (Ba.out _ (List.getElem_mem mm)) (by omega))
    rw [← fT] at IH2
    have gQ := I5 fT
    clear fT
    have nh := I5 ((HK.out k aJ).after B)
    have xA := I5 ((Fe.out k mm).after B)
    obtain ⟨v1, ic⟩ : ∃ v1, v1 = K k := ⟨_, rfl⟩
    obtain ⟨u1, F0⟩ : ∃ u1, u1 = KU k := ⟨_, rfl⟩
    rw [← ic] at a8 IH2 nh
    rw [← F0] at ij IH2 xA
    clear ic F0
    obtain ⟨dt, dp, dj, dm, dn, cZ, dk, eo, dA, dy, dC, dz, dB, dF, dD, dH, dE, dG⟩ := v1
    obtain ⟨fl, fh, qm, qh, qk, ql, qg, qj, AV, AT, AU⟩ := u1
    have fM := I5 a8
    clear a8
    replace ij : wr.rangeAt b2 (o2 + k * 5) [.bool fl, .bool fh, .slice qm qh qk, .slice ql qg qj, .slice AV AT AU] := ij
    have hb2l : b2 < wr.heap.size := cA (ij 0 _ rfl)
    go_upto_region 12 with (refine cD rfl _ rfl b _ rfl _ fM.out ?_; simp only [TV.val])
    let x1 := (wr.alloc (.cells #[.int .u8 dt, .slice dp dj dm, .slice dn cZ dk, .int .u8 eo, .bool dA, .bool dy, .slice dC dz dB, .bool dF, .bool dD, .slice dH dE dG] 29))
    change Code.wp _ _ _ _ x1
    have Z : Hid (Box x1 wr.heap.size 29 #[.int .u8 dt, .slice dp dj dm, .slice dn cZ dk, .int .u8 eo, .bool dA, .bool dy, .slice dC dz dB, .bool dF, .bool dD, .slice dH dE dG]) := I5 (Box.new _ _ _)
    have ej : Below wr.heap.size wr x1 := (Below.refl _ _).alloc (Nat.le_refl _) _
    replace X := I5 (X.out.after ej)
    replace Y := I5 (Y.out.after ej)
    have DA := ej
    replace B := B.trans (ej.mono B.size)
    clear ej
    clear_value x1
    skip
    have Cp : x1.rangeAt b2 (o2 + k * 5) [.bool fl, .bool fh, .slice qm qh qk, .slice ql qg qj, .slice AV AT AU] := fun j v hv => (World.cell?_of_block (a := ⟨b2, o2 + k * 5 + j, none⟩) (DA.block b2 hb2l)).trans (ij j v hv)
    have hb3l : b2 < x1.heap.size := Nat.lt_of_lt_of_le hb2l DA.size
    replace nh := I5 (nh.out.after DA)
    replace xA := I5 (xA.out.after DA)
    have CI := I5 (fun w' (h : Below x1.heap.size x1 w') => IH2.out w' (nh.out.after h) (xA.out.after h))
    clear ij hb2l IH2
    go_upto_region 12 with fail
    refine aP x1.heap.size x1 rfl (by kernel_rfl) (Below.refl _ _) ?_
    refine aU rfl 29 _ rfl Z.out (by rfl) Z.out.lt Tryz.underlying29 rfl (by kernel_rfl) ?_
    simp only [Act.put, I2, I3, I4]
    refine aa rfl (.pointer (some ⟨w.heap.size + 1, 4, none⟩)) (fun w' hw => by simp [go_sem]) ?_
    simp only [Act.put, I2, I3, I4]
    refine aa rfl (.slice (some ⟨b2, o2, none⟩) vs.length cj) (fun w' hw => by have := (Y.out.after hw).cell 4 rfl; simp [go_sem, this]) ?_
    simp only [Act.put, I2, I3, I4]
    refine aa rfl (.int .i64 k) (fun w' hw => by simp [go_sem]) ?_
    simp only [Act.put, I2, I3, I4]
    refine aa rfl (.pointer (some ⟨b2, o2 + k * 5, none⟩)) (fun w' hw => by simp [go_sem, cL, Er, mm]) ?_
    simp only [Act.put, I2, I3, I4]
    refine bI rfl 32 _ rfl b2 (o2 + k * 5) rfl [.bool fl, .bool fh, .slice qm qh qk, .slice ql qg qj, .slice AV AT AU] _ Cp hb3l Tryz.underlying32 rfl (by kernel_rfl) ?_
    simp only [Act.put, I2, I3, I4]
    refine be rfl 22 #[.agg #[.int .u8 dt, .slice dp dj dm, .slice dn cZ dk, .int .u8 eo, .bool dA, .bool dy, .slice dC dz dB, .bool dF, .bool dD, .slice dH dE dG], .agg #[.bool fl, .bool fh, .slice qm qh qk, .slice ql qg qj, .slice AV AT AU]] (fun w' => by simp [go_sem]) (.bool ck) (Nat.le_refl _) (fun w' hw => CI.out w' hw) ?_
    simp only [Act.put, I2, I3, I4]
    refine aa rfl (.bool (!ck)) (fun w' hw => by simp [go_sem]) ?_
    simp only [Act.put, I2, I3, I4]
    intro z9 hb9
    replace X := I5 (X.out.after hb9)
    replace Y := I5 (Y.out.after hb9)
    replace Z := I5 (Z.out.after hb9)
    replace B := B.trans (hb9.mono B.size)
    clear hb9
    clear CI nh xA Cp Z
    cases ck with
    | false =>
     have HF : Hid (R = false) := I5 (by rw [Bk.out]; exact qo yM aJ gQ.out.symm)
     go_wp2_with fail
     go_ret
     exact ⟨by rw [HF.out]; rfl, B⟩
    | true =>
     go_wp2_with fail
     go_roundw
     case rel => exact ⟨k + 1, by omega, by go_num, I5 (fun j h h2 => by
       by_cases hj : j < k
       ·exact hall.out j hj h2
       ·obtain rfl : j = k := by omega
        exact gQ.out.symm), B, X.out, Y.out⟩
     case measure => simp [intOf]; omega
theorem sw (t : Tg) (s : Sx) (v : TV) (u : SV) (w : World) (hr : RdT (fun _ => True) w v t) (hru : Rd w u s) (hw : t.wide 0 = false) (un : s.wide 0 = false) (ht : Tab w) : Calls Tryz.prog 9 #[v.val, u.val] w fun e w' => e = .returned (.bool (t.grants s)) ∧ Below w.heap.size w w' := by
 have gU := I5 hr
 have zr := I5 hru
 have HT := I5 ht
 have HW := I5 hw
 have zn := I5 un
 clear hr hru ht hw un
 obtain ⟨ay, aw, ap, av, aA, aS, az, vo, am, ak, aE, aB, aD, ar, aq, aI, aC, aH⟩ := v
 obtain ⟨sl, sh, cv, cq, cr, co, ci, cn, cu, cI, cj⟩ := u
 have C1 := I5 (fun w' (h : Below w.heap.size w w') => jQ t ⟨ay, aw, ap, av, aA, aS, az, vo, am, ak, aE, aB, aD, ar, aq, aI, aC, aH⟩ 0 w' (gU.out.after h) HW.out (HT.out.after h))
 have C2 := I5 (fun w' (h : Below w.heap.size w w') => xQ s ⟨sl, sh, cv, cq, cr, co, ci, cn, cu, cI, cj⟩ w' (zr.out.after h) zn.out (HT.out.after h))
 have C3 := I5 (fun w' (h : Below w.heap.size w w') => so t s ⟨ay, aw, ap, av, aA, aS, az, vo, am, ak, aE, aB, aD, ar, aq, aI, aC, aH⟩ ⟨sl, sh, cv, cq, cr, co, ci, cn, cu, cI, cj⟩ 0 0 w' (gU.out.after h) (zr.out.after h) HW.out zn.out trivial)
 have HD := I5 (show t.grants s = (t.may && (s.req && t.allows s)) from rfl)
 generalize t.grants s = R at *
 generalize t.may = r1 at *
 generalize s.req = r2 at *
 generalize t.allows s = r3 at *
 unfold SV.val
 let x0 := ((w.alloc (.cells #[.int .u8 ay, .slice aw ap av, .slice aA aS az, .int .u8 vo, .bool am, .bool ak, .slice aE aB aD, .bool ar, .bool aq, .slice aI aC aH] 29)).alloc (.cells #[.bool sl, .bool sh, .slice cv cq cr, .slice co ci cn, .slice cu cI cj] 32))
 have B : Below w.heap.size w x0 := ((Below.refl _ _).alloc (Nat.le_refl _) _).alloc (by simp [x0, x0]) _
 have X : Hid (Box x0 w.heap.size 29 #[.int .u8 ay, .slice aw ap av, .slice aA aS az, .int .u8 vo, .bool am, .bool ak, .slice aE aB aD, .bool ar, .bool aq, .slice aI aC aH]) := I5 ((Box.new _ _ _).alloc _)
 have Y : Hid (Box x0 (w.heap.size + 1) 32 #[.bool sl, .bool sh, .slice cv cq cr, .slice co ci cn, .slice cu cI cj]) := I5 (by
  have := Box.new (w.alloc (.cells #[.int .u8 ay, .slice aw ap av, .slice aA aS az, .int .u8 vo, .bool am, .bool ak, .slice aE aB aD, .bool ar, .bool aq, .slice aI aC aH] 29)) 32 #[.bool sl, .bool sh, .slice cv cq cr, .slice co ci cn, .slice cu cI cj]
  simpa [x0] using this)
 show Calls _ _ #[.agg #[.int .u8 ay, .slice aw ap av, .slice aA aS az, .int .u8 vo, .bool am, .bool ak, .slice aE aB aD, .bool ar, .bool aq, .slice aI aC aH], .agg #[.bool sl, .bool sh, .slice cv cq cr, .slice co ci cn, .slice cu cI cj]] _ _
 go_enter Tryz.func9, Tryz.ntmps9
 go_upto_region 1 with fail
 change Code.wp _ _ _ _ x0
 clear_value x0
 go_wp2_with (refine ab rfl 29 _ rfl X.out (by rfl) Tryz.underlying29 rfl (by kernel_rfl) ?_)
 refine (C1.out x0 B).mono ?_
 rintro e x1 ⟨rfl, bx1⟩
 replace X := I5 (X.out.after bx1)
 replace Y := I5 (Y.out.after bx1)
 replace B := B.trans (bx1.mono B.size)
 clear bx1
 clear C1
 cases r1 with
 | false =>
  have HF : Hid (R = false) := I5 (by rw [HD.out]; rfl)
  go_wp2_with fail
  go_ret
  exact ⟨by rw [HF.out]; rfl, B⟩
 | true =>
  go_wp2_with (refine ab rfl 32 _ rfl Y.out (by rfl) Tryz.underlying32 rfl (by kernel_rfl) ?_)
  refine (C2.out x1 B).mono ?_
  rintro e x2 ⟨rfl, bx2⟩
  replace X := I5 (X.out.after bx2)
  replace Y := I5 (Y.out.after bx2)
  replace B := B.trans (bx2.mono B.size)
  clear bx2
  clear C2
  cases r2 with
  | false =>
   have HF : Hid (R = false) := I5 (by rw [HD.out]; rfl)
   go_wp2_with fail
   go_ret
   exact ⟨by rw [HF.out]; rfl, B⟩
  | true =>
   have HF : Hid (R = r3) := I5 (by rw [HD.out]; rfl)
   go_wp2_with first | (refine ab rfl 29 _ rfl X.out (by rfl) Tryz.underlying29 rfl (by kernel_rfl) ?_) | (refine ab rfl 32 _ rfl Y.out (by rfl) Tryz.underlying32 rfl (by kernel_rfl) ?_)
   refine (C3.out x2 B).mono ?_
   rintro e x3 ⟨rfl, bx3⟩
   replace X := I5 (X.out.after bx3)
   replace Y := I5 (Y.out.after bx3)
   replace B := B.trans (bx3.mono B.size)
   clear bx3
   go_wp2_with fail
   go_ret
   exact ⟨by rw [HF.out] <;> rfl, B⟩
end Go.Proofs.YtmmkaclmgnpplaaGreatDoor

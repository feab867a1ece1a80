import Derived.Test.YtmmkaclmgnpplaaGreatDoorMz23
set_option maxRecDepth 100000
set_option maxHeartbeats 64000000
set_option linter.unusedSimpArgs false
set_option linter.unusedVariables false
namespace Go.Proofs.YtmmkaclmgnpplaaGreatDoor
open Go.RowKit
theorem iS {α : Type} (p : α → Bool) (ls : List α) (k : Nat) (h : k < ls.length) : (ls.take (k + 1)).any p = ((ls.take k).any p || p ls[k]) := by
 rw [List.take_succ_eq_append_getElem h, List.any_append]
 simp
theorem uH (ks : List Tg) (k : Nat) (h : k < ks.length) (n m : Int) : Tg.fewL (ks.drop k) n m = if m < n then n else Tg.fewL (ks.drop (k + 1)) (n + ks[k].few (m - n)) m := by
 rw [List.drop_eq_getElem_cons h]
 simp only [Tg.fewL]
theorem l9 (t : Tg) : ∀ (v : TV) (m : Int) (w : World), RdT (fun _ => True) w v t → 0 ≤ m → m ≤ 4611686018427387904 → Calls Tryz.prog 36 #[v.val, .int .i64 m] w fun e w' => e = .returned (.int .i64 (t.few m)) ∧ Below w.heap.size w w' := by
 induction t using Tg.ind with
 | h kd da ks r ih =>
 intro v m w hr Cn hm
 have IH := I5 ih
 clear ih
 obtain ⟨⟨cH, ho, cK, dv, dx, dw, fJ, fF⟩, an, hsl, cf, hn, K, ah, hk⟩ := hr.parts
 obtain ⟨ay, aw, ap, av, aA, aS, az, vo, am, ak, aE, aB, aD, ar, aq, aI, aC, aH⟩ := v
 obtain ⟨ro, ⟨li, lo, ll⟩, ⟨hi, mN, hl⟩⟩ := r
 dsimp only [Tg.kd, Tg.r, Tg.da, Tg.ks] at cH ho cK dv dx dw fJ fF an hsl cf hn ah hk
 subst cH ho cK dv dx dw hn
 have fL := I5 an
 have ke := I5 hsl
 have kf := I5 cf
 have HR := I5 ah
 have HK := I5 hk
 have ep := I5 an.1
 have kF := I5 hsl.1
 have kG := I5 cf.1
 have cF := Nat.le_trans an.2.1 an.2.2.1
 have cE := Nat.le_trans ah.1 ah.2.1
 unfold maxLen at cF cE
 clear an hsl cf ah hk hr
 rw [tu]
 have yL : m + 1 ≤ 4611686018427387905 := by omega
 let x0 := (w.alloc (.cells #[.int .u8 ay, .slice aw ap av, .slice aA ks.length az, .int .u8 vo, .bool am, .bool ak, .slice aE aB aD, .bool ar, .bool aq, .slice aI aC aH] 29))
 have B : Below w.heap.size w x0 := (Below.refl _ _).alloc (Nat.le_refl _) _
 have X : Hid (Box x0 w.heap.size 29 #[.int .u8 ay, .slice aw ap av, .slice aA ks.length az, .int .u8 vo, .bool am, .bool ak, .slice aE aB aD, .bool ar, .bool aq, .slice aI aC aH]) := I5 (Box.new _ _ _)
 show Calls _ _ #[.agg #[.int .u8 ay, .slice aw ap av, .slice aA ks.length az, .int .u8 vo, .bool am, .bool ak, .slice aE aB aD, .bool ar, .bool aq, .slice aI aC aH], .int .i64 m] _ _
 go_enter Tryz.func36, Tryz.ntmps36
 go_upto_region 1 with fail
 change Code.wp _ _ _ _ x0
 clear_value x0
 have q2 := X.out.cell 2 rfl
 go_wp2_with fail
 go_loopw [5, 11] (fun nn i wr => ∃ (k : Nat) (n : Int), k ≤ ks.length ∧ nn = .int .i64 n ∧ i = .int .i64 k ∧ 1 ≤ n ∧ n ≤ m + 1 ∧ Hid (Tg.fewL ks 1 m = Tg.fewL (ks.drop k) n m) ∧ Below w.heap.size w wr) (fun _ i _ => ks.length - (intOf i).toNat)
 case atStart => exact ⟨0, 1, Nat.zero_le _, rfl, rfl, by omega, by omega, I5 rfl, B⟩
 case round =>
  clear q2 X
  obtain ⟨k, n, fy, rfl, rfl, ig, IA, hfe, hb⟩ := hrel
  by_cases aJ : k < ks.length
  case neg =>
   have fS : ¬ (k : Int) < ks.length := by omega
   have HF : Hid (Tg.fewL ks 1 m = n) := I5 (by rw [hfe.out, List.drop_of_length_le (by omega)]; rfl)
   clear hfe
   go_wp2_with fail
   go_ret
   exact ⟨by rw [HF.out] <;> rfl, hb⟩
  case pos =>
   have fS : (k : Int) < ks.length := by omega
   have cL : (0 : Int) ≤ k := by omega
   obtain ⟨b, o, rfl, a8⟩ := (HR.out.after hb).range aJ
   have jy := I5 (hfe.out.trans (uH ks k aJ n m))
   clear hfe
   obtain ⟨k1, oZ⟩ : ∃ k1, k1 = K k := ⟨_, rfl⟩
   have IH2 := I5 (IH.out _ (List.getElem_mem aJ) (K k) (m - n))
   have nh := I5 ((HK.out k aJ).after hb)
   obtain ⟨f1, f2, _, _⟩ : (0 ≤ m - n → 1 ≤ ks[k].few (m - n)) ∧ (0 ≤ m - n → ks[k].few (m - n) ≤ m - n + 1) ∧ True ∧ True := ⟨fun h => (rV ks[k] _ h).1, fun h => (rV ks[k] _ h).2.1, trivial, trivial⟩
   generalize ks[k].few (m - n) = fx at *
   rw [← oZ] at a8 IH2 nh
   clear oZ
   obtain ⟨dt, dp, dj, dm, dn, cZ, dk, eo, dA, dy, dC, dz, dB, dF, dD, dH, dE, dG⟩ := k1
   have fM := I5 a8
   clear a8
   go_upto_region 5 with (refine cD rfl _ rfl b _ rfl _ fM.out ?_; simp only [TV.val])
   let x1 := (wr.alloc (.cells #[.int .u8 dt, .slice dp dj dm, .slice dn cZ dk, .int .u8 eo, .bool dA, .bool dy, .slice dC dz dB, .bool dF, .bool dD, .slice dH dE dG] 29))
   change Code.wp _ _ _ _ x1
   have B1 : Below wr.heap.size wr x1 := (Below.refl _ _).alloc (Nat.le_refl _) _
   have Z : Hid (Box x1 wr.heap.size 29 #[.int .u8 dt, .slice dp dj dm, .slice dn cZ dk, .int .u8 eo, .bool dA, .bool dy, .slice dC dz dB, .bool dF, .bool dD, .slice dH dE dG]) := I5 (Box.new _ _ _)
   have af := hb.trans (B1.mono hb.size)
   replace nh := I5 (nh.out.after B1)
   clear_value x1
   generalize wr.heap.size = y1 at *
   clear fM B1
   by_cases Ga : m < n
   case pos =>
    have HF : Hid (Tg.fewL ks 1 m = n) := I5 (by rw [jy.out, if_pos Ga])
    clear jy IH2 Z
    go_wp2_with fail
    go_ret
    exact ⟨by rw [HF.out] <;> rfl, af⟩
   case neg =>
    have HF : Hid (Tg.fewL ks 1 m = Tg.fewL (ks.drop (k + 1)) (n + fx) m) := I5 (by rw [jy.out, if_neg Ga])
    clear jy
    replace f1 := f1 (by omega)
    replace f2 := f2 (by omega)
    have e1 : IntKind.i64.wrap (m - n) = m - n := IntWalk.i64_in _ ⟨by omega, by omega⟩
    have e2 : IntKind.i64.wrap (n + fx) = n + fx := IntWalk.i64_in _ ⟨by omega, by omega⟩
    have CI := I5 (IH2.out x1 nh.out (by omega) (by omega))
    clear IH2
    go_wp2_with (refine ab rfl 29 _ rfl Z.out (by rfl) Tryz.underlying29 rfl (by kernel_rfl) ?_)
    refine CI.out.mono ?_
    rintro e w1 ⟨rfl, aK⟩
    have bK := af.trans (aK.mono af.size)
    clear CI Z nh aK
    go_wp2_with fail
    go_roundw
    case rel => exact ⟨k + 1, n + fx, by omega, rfl, by go_num, by omega, by omega, HF, bK⟩
    case measure => simp [intOf]; omega
def AnsRt (ks : List Tg) (K : Nat → TV) (g : Nat) (f : Tg → Bool) (w : World) : Prop := ∀ i (h : i < ks.length) w', Below w.heap.size w w' → Calls Tryz.prog 68 #[(K i).val, .pointer (some ⟨g, 0, none⟩)] w' fun e w'' => e = .returned (.bool (f ks[i])) ∧ Below w'.heap.size w' w''
theorem uf (a : Option Addr) (n c : Nat) (K : Nat → TV) (ks : List Tg) (g : Nat) (f : Tg → Bool) (w : World) (hr : RowT w a n c K) (i9 : n = ks.length) (he : AnsRt ks K g f w) :
  Calls Tryz.prog 77 #[.slice a n c, .func (.func 68) #[] #[.pointer (some ⟨g, 0, none⟩)]] w fun e w' => (∃ r : Int, e = .returned (.int .i64 r) ∧ decide (0 ≤ r) = ks.any f) ∧ Below w.heap.size w w' := by
 have HR := I5 hr
 have HL := I5 i9
 have HE := I5 he
 have hn : (n : Int) ≤ 9223372036854775807 := by have h2 := hr.1; have h3 := hr.2.1; unfold maxLen at h3; omega
 clear hr i9 he
 go_enter Tryz.func77, Tryz.ntmps77
 go_wp2_with fail
 go_loopw [8] (fun i wr => ∃ k : Nat, k ≤ n ∧ i = .int .i64 k ∧ Hid ((ks.take k).any f = false) ∧ Below w.heap.size w wr) (fun i _ => n - (intOf i).toNat)
 case atStart => exact ⟨0, Nat.zero_le _, rfl, I5 rfl, Below.refl _ _⟩
 case round =>
  obtain ⟨k, hk, rfl, gy, hb⟩ := hrel
  by_cases aJ : k < n
  case neg =>
   have fS : ¬ (k : Int) < n := by omega
   go_wp2_with fail
   go_ret
   exact ⟨⟨-1, rfl, by have h := gy.out; rw [List.take_of_length_le (by have := HL.out; omega)] at h; rw [h]; rfl⟩, hb⟩
  case pos =>
   have fS : (k : Int) < n := by omega
   have fy : k < ks.length := by have := HL.out; omega
   obtain ⟨b, o, rfl, a8⟩ := (HR.out.after hb).range aJ
   have fM := I5 a8
   have HC := I5 (HE.out k fy wr hb)
   have zq : Hid ((ks.take (k + 1)).any f = f (ks[k]'fy)) := I5 (by rw [iS _ _ _ fy, gy.out]; rfl)
   have Dm : Hid (f (ks[k]'fy) = true → ks.any f = true) := I5 (fun h => List.any_eq_true.2 ⟨_, List.getElem_mem fy, h⟩)
   generalize f (ks[k]'fy) = gx at *
   have cL : (0 : Int) ≤ k := by omega
   clear a8
   go_wp2_with (refine cD rfl _ rfl b _ rfl _ fM.out ?_)
   refine HC.out.mono ?_
   rintro e w1 ⟨rfl, af⟩
   have aK := hb.trans (af.mono hb.size)
   clear af fM
   cases gx with
   | true =>
    go_wp2_with fail
    go_ret
    exact ⟨⟨k, rfl, by rw [Dm.out (by trivial)]; simp⟩, aK⟩
   | false =>
    go_wp2_with fail
    go_roundw
    case rel => exact ⟨k + 1, by omega, by go_num, zq, aK⟩
    case measure => simp [intOf] <;> omega
theorem iO (a : Option Addr) (n c : Nat) (K : Nat → TV) (ks : List Tg) (g : Nat) (f : Tg → Bool) (w : World) (hr : RowT w a n c K) (i9 : n = ks.length) (he : AnsRt ks K g f w) :
  Calls Tryz.prog 41 #[.slice a n c, .func (.func 68) #[] #[.pointer (some ⟨g, 0, none⟩)]] w fun e w' => e = .returned (.bool (ks.any f)) ∧ Below w.heap.size w w' := by
 have HI := I5 (uf a n c K ks g f w hr i9 he)
 clear hr i9 he
 go_enter Tryz.func41, Tryz.ntmps41
 go_wp2_with fail
 refine HI.out.mono ?_
 rintro e w1 ⟨⟨r, rfl, hr⟩, hb⟩
 have HR := I5 hr
 clear hr
 go_wp2_with fail
 go_ret
 exact ⟨by rw [← HR.out]; rfl, hb⟩
theorem gJ (v : TV) (deep g : Nat) (r : Bool) (w : World) (hc : w.cell? ⟨g, 0, none⟩ = some (.int .i64 deep)) (hd : deep ≤ 1000)
  (H : ∀ w', Below w.heap.size w w' → Calls Tryz.prog 37 #[v.val, .int .i64 ((deep + 1 : Nat) : Int)] w' fun e w'' => e = .returned (.bool r) ∧ Below w'.heap.size w' w'') :
  Calls Tryz.prog 68 #[v.val, .pointer (some ⟨g, 0, none⟩)] w fun e w' => e = .returned (.bool (!r)) ∧ Below w.heap.size w w' := by
 have HH := I5 H
 have qH := cA hc
 clear H
 obtain ⟨ay, aw, ap, av, aA, aS, az, vo, am, ak, aE, aB, aD, ar, aq, aI, aC, aH⟩ := v
 let x0 := (w.alloc (.cells #[.int .u8 ay, .slice aw ap av, .slice aA aS az, .int .u8 vo, .bool am, .bool ak, .slice aE aB aD, .bool ar, .bool aq, .slice aI aC aH] 29))
 have hb : Below w.heap.size w x0 := (Below.refl _ _).alloc (Nat.le_refl _) _
 have o7 : (x0).cell? ⟨g, 0, none⟩ = some (.int .i64 deep) := (World.cell?_of_block (a := ⟨g, 0, none⟩) (hb.block g qH)).trans hc
 have HX : Hid (Box x0 w.heap.size 29 #[.int .u8 ay, .slice aw ap av, .slice aA aS az, .int .u8 vo, .bool am, .bool ak, .slice aE aB aD, .bool ar, .bool aq, .slice aI aC aH]) := I5 (Box.new _ _ _)
 have HC := I5 (HH.out _ hb)
 have vu : ((deep + 1 : Nat) : Int) = (deep : Int) + 1 := by omega
 rw [vu] at HC
 clear hc vu
 show Calls _ _ #[.agg #[.int .u8 ay, .slice aw ap av, .slice aA aS az, .int .u8 vo, .bool am, .bool ak, .slice aE aB aD, .bool ar, .bool aq, .slice aI aC aH], .pointer (some ⟨g, 0, none⟩)] _ _
 go_enter Tryz.func68, Tryz.ntmps68
 go_upto_region 1 with fail
 change Code.wp _ _ _ _ x0
 clear_value x0
 go_wp2_with (refine ab rfl 29 _ rfl HX.out (by rfl) Tryz.underlying29 rfl (by kernel_rfl) ?_)
 refine HC.out.mono ?_
 rintro e w1 ⟨rfl, af⟩
 have aK := hb.trans (af.mono hb.size)
 go_wp2_with fail
 go_ret
 exact ⟨rfl, aK⟩
theorem qW (t : Tg) : ∀ (v : TV) (m deep : Nat) (w : World), RdT (fun _ => True) w v t → t.wide m = false → deep ≤ 18 → Calls Tryz.prog 37 #[v.val, .int .i64 deep] w fun e w' => e = .returned (.bool (t.right deep)) ∧ Below w.heap.size w w' := by
 induction t using Tg.ind with
 | h kd da ks r ih =>
 intro v m deep w hr hw hd
 have IH := I5 ih
 clear ih
 obtain ⟨_, g2, g3, g4, g5, g6⟩ := cy hw
 have HG := I5 g6
 clear g6 hw
 obtain ⟨⟨cH, ho, cK, dv, dx, dw, fJ, fF⟩, an, hsl, cf, hn, K, ah, hk⟩ := hr.parts
 obtain ⟨ay, aw, ap, av, aA, aS, az, vo, am, ak, aE, aB, aD, ar, aq, aI, aC, aH⟩ := v
 obtain ⟨ro, ⟨li, lo, ll⟩, ⟨hi, mN, hl⟩⟩ := r
 dsimp only [Tg.kd, Tg.r, Tg.da, Tg.ks] at cH ho cK dv dx dw fJ fF an hsl cf hn ah hk
 subst cH ho cK dv dx dw hn
 have fL := I5 an
 have ke := I5 hsl
 have kf := I5 cf
 have HR := I5 ah
 have HK := I5 hk
 have ep := I5 an.1
 have kF := I5 hsl.1
 have kG := I5 cf.1
 have cF := Nat.le_trans an.2.1 an.2.2.1
 have cE := Nat.le_trans ah.1 ah.2.1
 unfold maxLen at cF cE
 clear an hsl cf ah hk hr
 have HD := I5 (lN ay da ks ⟨vo, ⟨am, ak, ll⟩, ⟨ar, aq, hl⟩⟩ deep)
 generalize (Tg.mk ay da ks ⟨vo, ⟨am, ak, ll⟩, ⟨ar, aq, hl⟩⟩).right deep = R at *
 have CB := I5 (fun w' (h : Below w.heap.size w w') => ve ay aw ap av aA ks.length az vo am ak aE aB aD ll ar aq aI aC aH hl w' (ke.out.after h) (kf.out.after h) (by have := kF.out; dsimp only at g4; omega) (by have := kG.out; dsimp only at g5; omega))
 rw [show blankT ay da.length ks.length ⟨vo, ⟨am, ak, ll⟩, ⟨ar, aq, hl⟩⟩ = blankT ay ap ks.length ⟨vo, ⟨am, ak, ll⟩, ⟨ar, aq, hl⟩⟩ by rw [ep.out]] at HD
 generalize blankT ay ap ks.length ⟨vo, ⟨am, ak, ll⟩, ⟨ar, aq, hl⟩⟩ = P at *
 let x0 := ((w.alloc (.cells #[.int .u8 ay, .slice aw ap av, .slice aA ks.length az, .int .u8 vo, .bool am, .bool ak, .slice aE aB aD, .bool ar, .bool aq, .slice aI aC aH] 29)).alloc (.cells #[.int .i64 deep] 3))
 have B : Below w.heap.size w x0 := ((Below.refl _ _).alloc (Nat.le_refl _) _).alloc (by simp [x0, x0]) _
 have X : Hid (Box x0 w.heap.size 29 #[.int .u8 ay, .slice aw ap av, .slice aA ks.length az, .int .u8 vo, .bool am, .bool ak, .slice aE aB aD, .bool ar, .bool aq, .slice aI aC aH]) := I5 ((Box.new _ _ _).alloc _)
 have Y : Hid (Box x0 (w.heap.size + 1) 3 #[.int .i64 deep]) := I5 (by
  have := Box.new (w.alloc (.cells #[.int .u8 ay, .slice aw ap av, .slice aA ks.length az, .int .u8 vo, .bool am, .bool ak, .slice aE aB aD, .bool ar, .bool aq, .slice aI aC aH] 29)) 3 #[.int .i64 deep]
  simpa [x0] using this)
 show Calls _ _ #[.agg #[.int .u8 ay, .slice aw ap av, .slice aA ks.length az, .int .u8 vo, .bool am, .bool ak, .slice aE aB aD, .bool ar, .bool aq, .slice aI aC aH], .int .i64 deep] _ _
 go_enter Tryz.func37, Tryz.ntmps37
 go_upto_region 1 with fail
 change Code.wp _ _ _ _ x0
 clear_value x0
 by_cases Gm : deep ≤ 17
 case neg =>
  have HF : Hid (R = false) := I5 (by rw [HD.out, decide_eq_false Gm]; simp)
  have y0 := Y.out.cell 0 rfl
  have Hr : (17 : Int) < deep := by omega
  cases P with
  | true =>
   clear HD
   go_wp2_with (refine ab rfl 29 _ rfl X.out (by rfl) Tryz.underlying29 rfl (by kernel_rfl) ?_)
   refine (CB.out x0 B).mono ?_
   rintro e x1 ⟨rfl, bx1⟩
   replace X := I5 (X.out.after bx1)
   replace Y := I5 (Y.out.after bx1)
   replace B := B.trans (bx1.mono B.size)
   clear bx1
   have y0 := Y.out.cell 0 rfl
   go_wp2_with fail
   go_ret
   exact ⟨by rw [HF.out]; rfl, B⟩
  | false =>
   clear HD
   go_wp2_with (refine ab rfl 29 _ rfl X.out (by rfl) Tryz.underlying29 rfl (by kernel_rfl) ?_)
   refine (CB.out x0 B).mono ?_
   rintro e x1 ⟨rfl, bx1⟩
   replace X := I5 (X.out.after bx1)
   replace Y := I5 (Y.out.after bx1)
   replace B := B.trans (bx1.mono B.size)
   clear bx1
   skip
   go_wp2_with fail
   go_ret
   exact ⟨by rw [HF.out]; rfl, B⟩
 case pos =>
  have Hr : ¬ (17 : Int) < deep := by omega
  cases P with
  | false =>
   have HF : Hid (R = false) := I5 (by rw [HD.out]; simp)
   clear HD
   go_wp2_with (refine ab rfl 29 _ rfl X.out (by rfl) Tryz.underlying29 rfl (by kernel_rfl) ?_)
   refine (CB.out x0 B).mono ?_
   rintro e x1 ⟨rfl, bx1⟩
   replace X := I5 (X.out.after bx1)
   replace Y := I5 (Y.out.after bx1)
   replace B := B.trans (bx1.mono B.size)
   clear bx1
   go_wp2_with fail
   go_ret
   exact ⟨by rw [HF.out]; rfl, B⟩
  | true =>
   have pf : Hid (R = (!starT ay ks && Tg.rightL ks (deep + 1))) := I5 (by rw [HD.out, decide_eq_true Gm]; simp)
   clear HD
   have y0 := Y.out.cell 0 rfl
   go_wp2_with (refine ab rfl 29 _ rfl X.out (by rfl) Tryz.underlying29 rfl (by kernel_rfl) ?_)
   refine (CB.out x0 B).mono ?_
   rintro e z1 ⟨rfl, bz1⟩
   clear y0 CB
   replace X := I5 (X.out.after bz1)
   replace Y := I5 (Y.out.after bz1)
   replace B := B.trans (bz1.mono B.size)
   clear bz1
   have y0 := Y.out.cell 0 rfl
   have q0 := X.out.cell 0 rfl
   have q2 := X.out.cell 2 rfl
   by_cases Gf : ay = 3
   case neg =>
    have t3 : ((ay : Int) == 3) = false := by simp; omega
    have gw : starT ay ks = false := by unfold starT; rw [decide_eq_false Gf]; rfl
    have HF : Hid (R = !(ks.any (fun k => !(k.right (deep + 1))))) := I5 (by rw [pf.out, gw, gK]; rfl)
    have HA : Hid (AnsRt ks K (w.heap.size + 1) (fun k => !(k.right (deep + 1))) z1) := I5 (fun i hi w' hw => gJ (K i) deep (w.heap.size + 1) (ks[i].right (deep + 1)) w' ((Y.out.after hw).cell 0 rfl) (by omega) (fun w2 oO => IH.out _ (List.getElem_mem hi) (K i) (m + 1) (deep + 1) w2 (((HK.out i hi).after (B.trans (hw.mono B.size))).after oO) (HG.out _ (List.getElem_mem hi)) (by omega)))
    clear gw
    go_wp2_with fail
    refine (iO (aA) ks.length az K ks (w.heap.size + 1) (fun k => !(k.right (deep + 1))) z1 (HR.out.after B) rfl HA.out).mono ?_
    rintro e w5 ⟨rfl, hb5⟩
    have B5 := B.trans (hb5.mono B.size)
    go_wp2_with fail
    go_ret
    exact ⟨by rw [HF.out]; rfl, B5⟩
   subst Gf
   by_cases hz : ks.length = 0
   case pos =>
    have gw : starT 3 ks = false := by rw [List.eq_nil_of_length_eq_zero hz]; rfl
    have BU : ¬ (0 : Int) < ks.length := by omega
    clear hz
    have HF : Hid (R = !(ks.any (fun k => !(k.right (deep + 1))))) := I5 (by rw [pf.out, gw, gK]; rfl)
    have HA : Hid (AnsRt ks K (w.heap.size + 1) (fun k => !(k.right (deep + 1))) z1) := I5 (fun i hi w' hw => gJ (K i) deep (w.heap.size + 1) (ks[i].right (deep + 1)) w' ((Y.out.after hw).cell 0 rfl) (by omega) (fun w2 oO => IH.out _ (List.getElem_mem hi) (K i) (m + 1) (deep + 1) w2 (((HK.out i hi).after (B.trans (hw.mono B.size))).after oO) (HG.out _ (List.getElem_mem hi)) (by omega)))
    clear gw
    go_wp2_with fail
    refine (iO (aA) ks.length az K ks (w.heap.size + 1) (fun k => !(k.right (deep + 1))) z1 (HR.out.after B) rfl HA.out).mono ?_
    rintro e w5 ⟨rfl, hb5⟩
    have B5 := B.trans (hb5.mono B.size)
    go_wp2_with fail
    go_ret
    exact ⟨by rw [HF.out]; rfl, B5⟩
   have BU : (0 : Int) < ks.length := by omega
   have mg : 0 < ks.length := by omega
   obtain ⟨b, o, rfl, a8⟩ := (HR.out.after B).range mg
   have H0 := (HK.out 0 mg)
   have yG : starT 3 ks = (decide ((ks[0]'mg).kd = 2) && ((ks[0]'mg).da == starL)) := by
    cases ks with
    | nil => cases mg
    | cons x s => simp [starT, headStar]
   generalize (ks[0]'mg) = k0 at *
   have e1 := H0.parts.1.1
   have e2 := (H0.parts.2.1).after B
   clear H0
   have c0 : z1.cell? ⟨b, o, none⟩ = some (.int .u8 (K 0).kd) := by have := a8 0 _ rfl; simpa using this
   have c1 : z1.cell? ⟨b, o + 1, none⟩ = some (.slice (K 0).a1 (K 0).n1 (K 0).c1) := by have := a8 1 _ rfl; simpa using this
   clear a8
   by_cases nM : k0.kd = 2
   case neg =>
    have gw : starT 3 ks = false := by rw [yG, decide_eq_false nM]; rfl
    have t2 : (((K 0).kd : Int) == 2) = false := by simp; omega
    clear yG e1 e2 c1 nM
    have HF : Hid (R = !(ks.any (fun k => !(k.right (deep + 1))))) := I5 (by rw [pf.out, gw, gK]; rfl)
    have HA : Hid (AnsRt ks K (w.heap.size + 1) (fun k => !(k.right (deep + 1))) z1) := I5 (fun i hi w' hw => gJ (K i) deep (w.heap.size + 1) (ks[i].right (deep + 1)) w' ((Y.out.after hw).cell 0 rfl) (by omega) (fun w2 oO => IH.out _ (List.getElem_mem hi) (K i) (m + 1) (deep + 1) w2 (((HK.out i hi).after (B.trans (hw.mono B.size))).after oO) (HG.out _ (List.getElem_mem hi)) (by omega)))
    clear gw
    go_wp2_with fail
    refine (iO (some ⟨b, o, none⟩) ks.length az K ks (w.heap.size + 1) (fun k => !(k.right (deep + 1))) z1 (HR.out.after B) rfl HA.out).mono ?_
    rintro e w5 ⟨rfl, hb5⟩
    have B5 := B.trans (hb5.mono B.size)
    go_wp2_with fail
    go_ret
    exact ⟨by rw [HF.out]; rfl, B5⟩
   have t2 : (((K 0).kd : Int) == 2) = true := by simp; omega
   have EE := bv e2
   have yF : starT 3 ks = (k0.da == [42]) := by rw [yG, decide_eq_true nM]; rfl
   clear yG e1 e2 nM
   generalize k0.da = dl at *
   cases hq : (dl == [42]) with
   | true =>
    have HF : Hid (R = false) := I5 (by rw [pf.out, yF, hq]; rfl)
    clear yF pf
    go_wp2_with fail
    go_ret
    exact ⟨by rw [HF.out]; rfl, B⟩
   | false =>
    have gw : starT 3 ks = false := by rw [yF, hq]
    clear yF
    have HF : Hid (R = !(ks.any (fun k => !(k.right (deep + 1))))) := I5 (by rw [pf.out, gw, gK]; rfl)
    have HA : Hid (AnsRt ks K (w.heap.size + 1) (fun k => !(k.right (deep + 1))) z1) := I5 (fun i hi w' hw => gJ (K i) deep (w.heap.size + 1) (ks[i].right (deep + 1)) w' ((Y.out.after hw).cell 0 rfl) (by omega) (fun w2 oO => IH.out _ (List.getElem_mem hi) (K i) (m + 1) (deep + 1) w2 (((HK.out i hi).after (B.trans (hw.mono B.size))).after oO) (HG.out _ (List.getElem_mem hi)) (by omega)))
    clear gw
    go_wp2_with fail
    refine (iO (some ⟨b, o, none⟩) ks.length az K ks (w.heap.size + 1) (fun k => !(k.right (deep + 1))) z1 (HR.out.after B) rfl HA.out).mono ?_
    rintro e w5 ⟨rfl, hb5⟩
    have B5 := B.trans (hb5.mono B.size)
    go_wp2_with fail
    go_ret
    exact ⟨by rw [HF.out]; rfl, B5⟩
end Go.Proofs.YtmmkaclmgnpplaaGreatDoor

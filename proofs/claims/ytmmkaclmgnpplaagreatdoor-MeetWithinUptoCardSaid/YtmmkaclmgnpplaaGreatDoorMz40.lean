import Derived.Test.YtmmkaclmgnpplaaGreatDoorMz39
set_option maxRecDepth 100000
set_option maxHeartbeats 64000000
set_option linter.unusedSimpArgs false
set_option linter.unusedVariables false
namespace Go.Proofs.YtmmkaclmgnpplaaGreatDoor
open Go.RowKit
def lists (n : Nat) (xs ys : List Tg) (p : Nat) : Option (Tg × Nat) := match (if xs.length < ys.length then listF (meetF n) ys xs p else listF (meetF n) xs ys p) with
 | none => none
 | some (none, q) => some (noT, q)
 | some (some l, q) => some (.mk 3 [] l noR, q)
def setO : Option (List Tg × Nat) → Option (Tg × Nat)
 | none => none
 | some (l, q) => some (setT l, q)
def listO : Option (Option (List Tg) × Nat) → Option (Tg × Nat)
 | none => none
 | some (none, q) => some (noT, q)
 | some (some l, q) => some (.mk 3 [] l noR, q)
def ListOk (n : Nat) : Prop := ∀ (xs ys : List Tg) (p : Nat) (xa : Option Addr) (xn xc : Nat) (KX : Nat → TV) (ya : Option Addr) (yn yc : Nat) (KY : Nat → TV) (w : World) (g : Nat) (ok : Nat → Prop),
 xn = xs.length → yn = ys.length → (∀ x ∈ xs, ∀ y ∈ ys, x.count + y.count ≤ n) → (∀ x ∈ xs, Fit x) → (∀ y ∈ ys, Fit y) → xs.length ≤ 700 → ys.length ≤ 700 → MArg ok g w p →
 RowT w xa xn xc KX → InB ok xa xn → (∀ i (hi : i < xs.length), RdT ok w (KX i) xs[i]) → RowT w ya yn yc KY → InB ok ya yn → (∀ i (hi : i < ys.length), RdT ok w (KY i) ys[i]) →
 Calls Tryz.prog 86 #[.pointer (some ⟨g, 0, none⟩), .slice xa xn xc, .slice ya yn yc] w (MetP ok g (lists n xs ys p) w)
theorem vd (n : Nat) (a b : Tg) (p : Nat) (h : a.kd = 1) : bothF n a b p = some (b, p) := by rw [cx, if_pos h]
theorem sk (n : Nat) (a b : Tg) (p : Nat) (h : a.kd ≠ 1) (h2 : b.kd = 1) : bothF n a b p = some (a, p) := by rw [cx, if_neg h, if_pos h2]
theorem uZ (n : Nat) (a b : Tg) (p : Nat) (h : a.kd ≠ 1) (h2 : b.kd ≠ 1) (h3 : a.kd = 4) (S : Option (List Tg × Nat)) (hS : S = overF (fun k q => meetF n k b q) a.ks p) :
  bothF n a b p = setO S := by rw [cx, if_neg h, if_neg h2, if_pos h3, hS]; rfl
theorem si (n : Nat) (a b : Tg) (p : Nat) (h : a.kd ≠ 1) (h2 : b.kd ≠ 1) (h3 : a.kd ≠ 4) (h4 : b.kd = 4) (S : Option (List Tg × Nat)) (hS : S = overF (fun k q => meetF n a k q) b.ks p) :
  bothF n a b p = setO S := by rw [cx, if_neg h, if_neg h2, if_neg h3, if_pos h4, hS]; rfl
theorem sj (n : Nat) (a b : Tg) (p : Nat) (h3 : a.kd = 3) (h4 : b.kd = 3) : bothF n a b p = lists n a.ks b.ks p := by
 rw [cx, if_neg (by omega), if_neg (by omega), if_neg (by omega), if_neg (by omega), if_pos ⟨h3, h4⟩]; rfl
theorem qA (n : Nat) (a b : Tg) (p : Nat) (h : a.kd ≠ 1) (h2 : b.kd ≠ 1) (h3 : a.kd ≠ 4) (h4 : b.kd ≠ 4) (h5 : ¬ (a.kd = 3 ∧ b.kd = 3)) : bothF n a b p = some (plainT a b, p) := by
 rw [cx, if_neg h, if_neg h2, if_neg h3, if_neg h4, if_neg h5]
theorem ze (n : Nat) (ii : MeetOk n) (zI : ListOk n) : BothOk n := by
 intro a b p va vb w g ok hc ha hb hm hra hrb
 have MA := I5 hm
 have RA := I5 hra
 have RB := I5 hrb
 have HA := I5 ha
 have HB := I5 hb
 have HC := I5 hc
 have AL := hm.box.lt
 have hM := I5 ii
 have hL := I5 zI
 obtain ⟨R, hR⟩ : ∃ R, R = bothF n a b p := ⟨_, rfl⟩
 rw [← hR]
 obtain ⟨⟨AJ, -, -, -, -, -, hk9a, -⟩, -, -, -, Cm, KA, p5, Gd⟩ := hra.parts
 obtain ⟨⟨AI, -, -, -, -, -, hk9b, -⟩, -, -, -, ut, KB, p0, Gc⟩ := hrb.parts
 have Bh := I5 hra.inb.2.2.2
 have Bg := I5 hrb.inb.2.2.2
 obtain ⟨du, eJ, dV, eI, eU, dN, eT, ao, dZ, dY, eF, ek, eE, d8, d7, eH, em, eG⟩ := va
 obtain ⟨dU, ej, fd, ft, fI, eS, fH, bo, eB, eA, fm, fe, fk, eD, eC, fq, ff, fp⟩ := vb
 dsimp only at AJ hk9a Cm p5 AI hk9b ut p0 Bh Bg
 have qE := I5 AJ
 have qD := I5 AI
 have Dg := I5 Cm
 have Df := I5 ut
 have zW := I5 p5
 have zV := I5 p0
 have HKA_ := I5 Gd
 have HKB_ := I5 Gc
 have Eg := Nat.le_trans p5.1 p5.2.1
 have AF := Nat.le_trans p0.1 p0.2.1
 unfold maxLen at Eg AF
 have Hk : dN ≤ 700 := by have := Dg.out; have := HA.out.kids; omega
 have Hj : eS ≤ 700 := by have := Df.out; have := HB.out.kids; omega
 clear ii zI hc ha hb hm hra hrb AJ AI Cm ut p5 p0 Gd Gc
 let x0 := (((w.alloc (.cells #[.int .u8 du, .slice eJ dV eI, .slice eU dN eT, .int .u8 ao, .bool dZ, .bool dY, .slice eF ek eE, .bool d8, .bool d7, .slice eH em eG] 29)).alloc (.cells #[.int .u8 dU, .slice ej fd ft, .slice fI eS fH, .int .u8 bo, .bool eB, .bool eA, .slice fm fe fk, .bool eD, .bool eC, .slice fq ff fp] 29)).alloc (.cells #[.int .u8 0, .slice none 0 0, .slice none 0 0, .int .u8 0, .bool false, .bool false, .slice none 0 0, .bool false, .bool false, .slice none 0 0] 29))
 have B : Below w.heap.size w x0 := (((Below.refl _ _).alloc (Nat.le_refl _) _).alloc (by simp [x0, x0]) _).alloc (by simp [x0, x0]; omega) _
 have X : Hid (Box x0 w.heap.size 29 #[.int .u8 du, .slice eJ dV eI, .slice eU dN eT, .int .u8 ao, .bool dZ, .bool dY, .slice eF ek eE, .bool d8, .bool d7, .slice eH em eG]) := I5 (((Box.new _ _ _).alloc _).alloc _)
 have Y : Hid (Box x0 (w.heap.size + 1) 29 #[.int .u8 dU, .slice ej fd ft, .slice fI eS fH, .int .u8 bo, .bool eB, .bool eA, .slice fm fe fk, .bool eD, .bool eC, .slice fq ff fp]) := I5 (by
  have := (Box.new (w.alloc (.cells #[.int .u8 du, .slice eJ dV eI, .slice eU dN eT, .int .u8 ao, .bool dZ, .bool dY, .slice eF ek eE, .bool d8, .bool d7, .slice eH em eG] 29)) 29 #[.int .u8 dU, .slice ej fd ft, .slice fI eS fH, .int .u8 bo, .bool eB, .bool eA, .slice fm fe fk, .bool eD, .bool eC, .slice fq ff fp]).alloc (.cells #[.int .u8 0, .slice none 0 0, .slice none 0 0, .int .u8 0, .bool false, .bool false, .slice none 0 0, .bool false, .bool false, .slice none 0 0] 29)
  simpa [x0] using this)
 have Z : Hid (Box x0 (w.heap.size + 2) 29 #[.int .u8 0, .slice none 0 0, .slice none 0 0, .int .u8 0, .bool false, .bool false, .slice none 0 0, .bool false, .bool false, .slice none 0 0]) := I5 (by
  have := Box.new ((w.alloc (.cells #[.int .u8 du, .slice eJ dV eI, .slice eU dN eT, .int .u8 ao, .bool dZ, .bool dY, .slice eF ek eE, .bool d8, .bool d7, .slice eH em eG] 29)).alloc (.cells #[.int .u8 dU, .slice ej fd ft, .slice fI eS fH, .int .u8 bo, .bool eB, .bool eA, .slice fm fe fk, .bool eD, .bool eC, .slice fq ff fp] 29)) 29 #[.int .u8 0, .slice none 0 0, .slice none 0 0, .int .u8 0, .bool false, .bool false, .slice none 0 0, .bool false, .bool false, .slice none 0 0]
  simpa [x0] using this)
 simp only [TV.val]
 show Calls _ _ #[.pointer (some ⟨g, 0, none⟩), .agg #[.int .u8 du, .slice eJ dV eI, .slice eU dN eT, .int .u8 ao, .bool dZ, .bool dY, .slice eF ek eE, .bool d8, .bool d7, .slice eH em eG], .agg #[.int .u8 dU, .slice ej fd ft, .slice fI eS fH, .int .u8 bo, .bool eB, .bool eA, .slice fm fe fk, .bool eD, .bool eC, .slice fq ff fp]] _ _
 go_enter Tryz.func55, Tryz.ntmps55
 go_upto_region 1 with fail
 change Code.wp _ _ _ _ x0
 clear_value x0
 have MW := I5 ((MB.refl MA.out.box).step B)
 have BT := Z.out.lt
 have x_0 := X.out.cell 0 rfl
 have x_2 := X.out.cell 2 rfl
 have y_0 := Y.out.cell 0 rfl
 have y_2 := Y.out.cell 2 rfl
 have up := B.size
 by_cases h_t1 : du = 1
 case pos =>
  have t1 : ((du : Int) == 1) = true := beq_iff_eq.mpr (by omega)
  replace h_t1 := I5 h_t1
  go_wp2_with first | (refine ab rfl 29 _ rfl Y.out (by rfl) Tryz.underlying29 rfl (by kernel_rfl) ?_) | (refine ac (cells := #[.int .u8 dU, .slice ej fd ft, .slice fI eS fH, .int .u8 bo, .bool eB, .bool eA, .slice fm fe fk, .bool eD, .bool eC, .slice fq ff fp]) rfl 29 _ _ rfl Z.out (by rfl) (by rfl) rfl (by kernel_rfl) (by simp [Value.oneCell']) ?_; intro u9 X9 st9)
  have R9 : RdT (okN ok w.heap.size) u9 ⟨dU, ej, fd, ft, fI, eS, fH, bo, eB, eA, fm, fe, fk, eD, eC, fq, ff, fp⟩ b := ((RB.out.after B).keep (w' := u9) (fun b hb => st9.other b (by have := MA.out.old b hb; omega))).mono (fun b hb => .inl hb)
  exact bodyPost_ret (v := .agg #[.int .u8 dU, .slice ej fd ft, .slice fI eS fH, .int .u8 bo, .bool eB, .bool eA, .slice fm fe fk, .bool eD, .bool eC, .slice fq ff fp]) (ae rfl _ _ (by rfl) X9 Tryz.underlying29 rfl (by kernel_rfl)) rfl (MetP.ret ⟨dU, ej, fd, ft, fI, eS, fH, bo, eB, eA, fm, fe, fk, eD, eC, fq, ff, fp⟩ (by rw [hR]; exact vd n a b p (by have := qE.out; have := qD.out; have := h_t1.out; omega)) MA.out.le R9 (MW.out.stored st9 (by omega) (by omega)))
 have t1 : ((du : Int) == 1) = false := beq_eq_false_iff_ne.mpr (by omega)
 replace h_t1 := I5 h_t1
 by_cases h_t2 : dU = 1
 case pos =>
  have t2 : ((dU : Int) == 1) = true := beq_iff_eq.mpr (by omega)
  replace h_t2 := I5 h_t2
  go_wp2_with first | (refine ab rfl 29 _ rfl X.out (by rfl) Tryz.underlying29 rfl (by kernel_rfl) ?_) | (refine ac (cells := #[.int .u8 du, .slice eJ dV eI, .slice eU dN eT, .int .u8 ao, .bool dZ, .bool dY, .slice eF ek eE, .bool d8, .bool d7, .slice eH em eG]) rfl 29 _ _ rfl Z.out (by rfl) (by rfl) rfl (by kernel_rfl) (by simp [Value.oneCell']) ?_; intro u9 X9 st9)
  have R9 : RdT (okN ok w.heap.size) u9 ⟨du, eJ, dV, eI, eU, dN, eT, ao, dZ, dY, eF, ek, eE, d8, d7, eH, em, eG⟩ a := ((RA.out.after B).keep (w' := u9) (fun b hb => st9.other b (by have := MA.out.old b hb; omega))).mono (fun b hb => .inl hb)
  exact bodyPost_ret (v := .agg #[.int .u8 du, .slice eJ dV eI, .slice eU dN eT, .int .u8 ao, .bool dZ, .bool dY, .slice eF ek eE, .bool d8, .bool d7, .slice eH em eG]) (ae rfl _ _ (by rfl) X9 Tryz.underlying29 rfl (by kernel_rfl)) rfl (MetP.ret ⟨du, eJ, dV, eI, eU, dN, eT, ao, dZ, dY, eF, ek, eE, d8, d7, eH, em, eG⟩ (by rw [hR]; exact sk n a b p (by have := qE.out; have := qD.out; have := h_t1.out; have := h_t2.out; omega) (by have := qE.out; have := qD.out; have := h_t1.out; have := h_t2.out; omega)) MA.out.le R9 (MW.out.stored st9 (by omega) (by omega)))
 have t2 : ((dU : Int) == 1) = false := beq_eq_false_iff_ne.mpr (by omega)
 replace h_t2 := I5 h_t2
 by_cases h_t3 : du = 4
 case pos =>
  have t3 : ((du : Int) == 4) = true := beq_iff_eq.mpr (by omega)
  replace h_t3 := I5 h_t3
  obtain ⟨S, hS⟩ : ∃ S, S = overF (fun k q => meetF n k b q) a.ks p := ⟨_, rfl⟩
  have HR := I5 (hR.trans (uZ n a b p (by have := qE.out; have := qD.out; have := h_t1.out; have := h_t2.out; have := h_t3.out; omega) (by have := qE.out; have := qD.out; have := h_t1.out; have := h_t2.out; have := h_t3.out; omega) (by have := qE.out; have := qD.out; have := h_t1.out; have := h_t2.out; have := h_t3.out; omega) S hS))
  clear hR
  have HS := I5 hS
  clear hS
  go_wp2_with fail
  go_loopw [7, 30] (fun acc i wr => ∃ (k q : Nat) (J : Nat → TV) (l : List Tg), k ≤ dN ∧ Hid (l.length = k) ∧ i = .int .i64 k ∧ Hid (q ≤ 20000) ∧ Hid (Box wr (w.heap.size + 1) 29 #[.int .u8 dU, .slice ej fd ft, .slice fI eS fH, .int .u8 bo, .bool eB, .bool eA, .slice fm fe fk, .bool eD, .bool eC, .slice fq ff fp]) ∧ Hid (Box wr (w.heap.size + 2) 29 #[.int .u8 0, .slice none 0 0, .slice none 0 0, .int .u8 0, .bool false, .bool false, .slice none 0 0, .bool false, .bool false, .slice none 0 0]) ∧ OwnG wr (w.heap.size + 3) 10 acc k (newsT J k) ∧ Hid (∀ i (hi : i < l.length), RdT (okO (okN ok (w.heap.size + 3)) acc) wr (J i) l[i]) ∧ Hid (∀ x ∈ l, Fit x) ∧ Hid (S = preO l (overF (fun k q => meetF n k b q) (a.ks.drop k) q)) ∧ Hid (MB g w wr q)) (fun _ i _ => dN - (intOf i).toNat)
  case atStart => exact ⟨0, p, (fun _ => TV.nil), [], Nat.zero_le _, I5 rfl, rfl, I5 MA.out.le, Y, Z, OwnG.nil _ _ _, I5 (fun i hi => by simp at hi), I5 (fun x hx => by cases hx), I5 (by rw [pL, List.drop_zero]; exact HS.out), MW⟩
  case round =>
   clear X Y Z MW B
   obtain ⟨k, q, J, l, fy, hlk, rfl, hq, V, Z, ho, hme, hfit, gw, MR⟩ := hrel
   have O := I5 ho
   clear ho
   have kQ := Z.out.lt
   have Dr := MR.out.size
   by_cases aJ : k < dN
   case neg =>
    have fS : ¬ (k : Int) < dN := by omega
    have HE : Hid (S = some (l, q)) := I5 (by rw [gw.out]; exact nw _ _ _ (by have := Dg.out; omega) _ _)
    clear gw
    obtain ⟨ra, rc, rfl, ah, jb⟩ := O.out.rowT
    have HW := I5 ah
    clear ah jb
    have CS := I5 (sA (okO (okN ok (w.heap.size + 3)) (.slice ra k rc)) l (some ⟨g, 0, none⟩) ra rc J wr (by rw [hlk.out]; exact HW.out) hme.out (by have := hlk.out; have := Dg.out; have := HA.out.kids; omega) (fun x hx => (hfit.out x hx).kids))
    rw [hlk.out] at CS
    go_wp2_with fail
    refine CS.out.mono ?_
    rintro e w2 ⟨⟨gZ, gB, gz, gA, gT, gR, fZ, uo, eu, et, eY, eW, eX, fa, eZ, fw, fu, fv⟩, rfl, rt, aK⟩
    have RT := I5 rt
    have M2 := I5 (MR.out.step aK)
    replace Z := I5 (Z.out.after aK)
    have aO := aK.size
    simp only [TV.val]
    clear rt aK CS
    go_wp2_with (refine ac (cells := #[.int .u8 gZ, .slice gB gz gA, .slice gT gR fZ, .int .u8 uo, .bool eu, .bool et, .slice eY eW eX, .bool fa, .bool eZ, .slice fw fu fv]) rfl 29 _ _ rfl Z.out (by rfl) (by rfl) rfl (by kernel_rfl) (by simp [Value.oneCell']) ?_; intro u9 X9 st9)
    have R9 : RdT (okN ok w.heap.size) u9 ⟨gZ, gB, gz, gA, gT, gR, fZ, uo, eu, et, eY, eW, eX, fa, eZ, fw, fu, fv⟩ (setT l) := (RT.out.keep (w' := u9) (fun b hb => st9.other b (by rcases hb with ⟨⟨h1 | h1, -⟩, -⟩ | h1; have := MA.out.old b h1; omega; omega; omega))).mono (fun b hb => by rcases hb with ⟨⟨h1 | h1, -⟩, -⟩ | h1; exact .inl h1; exact .inr (by omega); exact .inr (by omega))
    exact bodyPost_ret (v := .agg #[.int .u8 gZ, .slice gB gz gA, .slice gT gR fZ, .int .u8 uo, .bool eu, .bool et, .slice eY eW eX, .bool fa, .bool eZ, .slice fw fu fv]) (ae rfl _ _ (by rfl) X9 Tryz.underlying29 rfl (by kernel_rfl)) rfl (MetP.ret ⟨gZ, gB, gz, gA, gT, gR, fZ, uo, eu, et, eY, eW, eX, fa, eZ, fw, fu, fv⟩ (by rw [HR.out, HE.out]; rfl) hq.out R9 (M2.out.stored st9 (by omega) (by omega)))
   case pos =>
    have fS : (k : Int) < dN := by omega
    have cL : (0 : Int) ≤ k := by omega
    have kE : k < a.ks.length := by have := Dg.out; omega
    have ROW := I5 (MR.out.rowT zW.out Bh.out MA.out.own)
    obtain ⟨b0, o0, AM, a8⟩ := ROW.out.range aJ
    have RE := I5 (MR.out.rdT (HKA_.out k kE) MA.out.own)
    obtain ⟨tk, kC⟩ : ∃ t, t = a.ks[k] := ⟨_, rfl⟩
    have jy := I5 (gw.out.trans (lZ (fun k q => meetF n k b q) a.ks k kE l q))
    rw [← kC] at jy RE
    have gQ : Hid (tk.count < a.count) := I5 (by rw [kC]; exact iN (List.getElem_mem kE))
    have vp : Hid (Fit tk) := I5 (by rw [kC]; exact HA.out.kid _ (List.getElem_mem kE))
    clear kC gw ROW
    obtain ⟨v1, ic⟩ : ∃ v1, v1 = KA k := ⟨_, rfl⟩
    rw [← ic] at a8 RE
    clear ic
    obtain ⟨dt, dp, dj, dm, dn, cZ, dk, eo, dA, dy, dC, dz, dB, dF, dD, dH, dE, dG⟩ := v1
    replace a8 : wr.rangeAt b0 (o0 + k * 10) [.int .u8 dt, .slice dp dj dm, .slice dn cZ dk, .int .u8 eo, .bool dA, .bool dy, .slice dC dz dB, .bool dF, .bool dD, .slice dH dE dG] := a8
    have fM := I5 a8
    clear a8
    subst AM
    go_upto_region 10 with (refine ai rfl 29 _ rfl b0 _ rfl _ _ fM.out Tryz.underlying29 rfl (by kernel_rfl) ?_)
    let z1 := (wr.alloc (.cells #[.int .u8 dt, .slice dp dj dm, .slice dn cZ dk, .int .u8 eo, .bool dA, .bool dy, .slice dC dz dB, .bool dF, .bool dD, .slice dH dE dG] 29))
    change Code.wp _ _ _ _ z1
    have hA : Below wr.heap.size wr z1 := (Below.refl _ _).alloc (Nat.le_refl _) _
    have E1 : Hid (Box z1 wr.heap.size 29 #[.int .u8 dt, .slice dp dj dm, .slice dn cZ dk, .int .u8 eo, .bool dA, .bool dy, .slice dC dz dB, .bool dF, .bool dD, .slice dH dE dG]) := I5 (Box.new _ _ _)
    have M1 := I5 (MR.out.step hA)
    have AR := I5 (MA.out.mb M1.out hq.out)
    replace RE := I5 (RE.out.after hA)
    replace V := I5 (V.out.after hA)
    replace Z := I5 (Z.out.after hA)
    replace O := I5 (O.out.after hA)
    have M2 := I5 (fun i hi => (hme.out i hi).after hA)
    have D7 := hA.size
    clear_value z1
    clear hA fM hme MR
    have yN := I5 (fun b e => (O.out.lt b e).2)
    go_wp2_with first | (refine ab rfl 29 _ rfl E1.out (by rfl) Tryz.underlying29 rfl (by kernel_rfl) ?_) | (refine ab rfl 29 _ rfl V.out (by rfl) Tryz.underlying29 rfl (by kernel_rfl) ?_)
    refine (hM.out tk b q ⟨dt, dp, dj, dm, dn, cZ, dk, eo, dA, dy, dC, dz, dB, dF, dD, dH, dE, dG⟩ ⟨dU, ej, fd, ft, fI, eS, fH, bo, eB, eA, fm, fe, fk, eD, eC, fq, ff, fp⟩ z1 g ok (by have := gQ.out; have := HC.out; omega) vp.out HB.out AR.out RE.out (M1.out.rdT RB.out MA.out.own)).mono ?_
    rintro e w1 (⟨hr, rfl, q2, hm⟩ | ⟨t, q2, v, hr, iW, rfl, rt, hm⟩)
    ·unfold LongE
     exact ⟨rfl, MetP.long (by rw [HR.out, jy.out, hr]; rfl) (M1.out.trans hm)⟩
    have vn : Hid (Fit t) := I5 (ef n _ _ _ _ _ vp.out HB.out hr)
    replace jy : Hid (S = preO (l ++ [t]) (overF (fun k q => meetF n k b q) (a.ks.drop (k + 1)) q2)) := I5 (by rw [jy.out, hr])
    have RT0 := I5 rt
    clear hr rt
    obtain ⟨jz, jw, ju, jv, kA, kg, kz, zo, kk, ki, ko, kj, km, kw, ku, ky, kv, kx⟩ := v
    simp only [TV.val]
    replace V := I5 (hm.far V.out (by omega))
    replace Z := I5 (hm.far Z.out (by omega))
    replace O := I5 (hm.own O.out (by omega))
    replace M2 := I5 (fun i hi => hm.rdT (M2.out i hi) (by rintro ⟨h1 | h1, -⟩; exact MA.out.own h1; omega))
    replace M1 := I5 (M1.out.trans hm)
    have an := hm.size
    have nc := I5 O.out.lt
    clear hm E1 RE AR
    have ca : Below w1.heap.size w1 (w1.alloc (.cells #[.int .u8 jz, .slice jw ju jv, .slice kA kg kz, .int .u8 zo, .bool kk, .bool ki, .slice ko kj km, .bool kw, .bool ku, .slice ky kv kx] 29)) := (Below.refl _ _).alloc (Nat.le_refl _) _
    replace V := I5 (V.out.after ca)
    replace Z := I5 (Z.out.after ca)
    replace O := I5 (O.out.after ca)
    replace M2 := I5 (fun i hi => (M2.out i hi).after ca)
    replace M1 := I5 (M1.out.step ca)
    have RV := I5 ((RT0.out.mono (ok' := (okO (okN ok (w.heap.size + 3)) _)) (fun b' hb' => ⟨eO (by omega) hb', fun e => by have h3 := (nc.out b' e); rcases hb' with h1 | h1; have := MA.out.old b' h1; omega; have := h3.2; have := yN.out b' e; omega⟩)).after ca)
    have SR := I5 (k7 w1 ⟨jz, jw, ju, jv, kA, kg, kz, zo, kk, ki, ko, kj, km, kw, ku, ky, kv, kx⟩)
    have By := ca.size
    have wz := Z.out.lt
    clear ca RT0
    go_wp2_with (refine bk rfl _ _ rfl rfl O.out rfl SR.out (by omega) (by omega) ?_; intro v3 w3 fj hg3 mh; rw [ee] at fj)
    have gj : ∀ j, j < w.heap.size + 3 → j < (w1.alloc (.cells #[.int .u8 jz, .slice jw ju jv, .slice kA kg kz, .int .u8 zo, .bool kk, .bool ki, .slice ko kj km, .bool kw, .bool ku, .slice ky kv kx] 29)).heap.size → w3.heap[j]? = (w1.alloc (.cells #[.int .u8 jz, .slice jw ju jv, .slice kA kg kz, .int .u8 zo, .bool kk, .bool ki, .slice ko kj km, .bool kw, .bool ku, .slice ky kv kx] 29)).heap[j]? := fun j hj zK => hg3.block j zK (fun e => by have := (O.out.lt _ e.symm).1; omega)
    go_roundw
    case rel => exact ⟨k + 1, q2, _, l ++ [t], by omega, I5 (by simp [hlk.out]), by go_num, I5 iW, I5 ((gj _ (by omega) V.out.lt).trans V.out), I5 ((gj _ (by omega) Z.out.lt).trans Z.out), fj, I5 (dL hlk.out.symm M2.out RV.out hg3 mh), I5 (fun x hx => (List.mem_append.1 hx).elim (hfit.out x) (fun h => by rw [List.mem_singleton.1 h]; exact vn.out)), jy, I5 (M1.out.grown hg3 (fun k e => .inl (by have := (O.out.lt k e).1; constructor <;> omega)))⟩
    case measure => simp [intOf]; omega
 have t3 : ((du : Int) == 4) = false := beq_eq_false_iff_ne.mpr (by omega)
 replace h_t3 := I5 h_t3
 by_cases h_t4 : dU = 4
 case pos =>
  have t4 : ((dU : Int) == 4) = true := beq_iff_eq.mpr (by omega)
  replace h_t4 := I5 h_t4
  obtain ⟨S, hS⟩ : ∃ S, S = overF (fun k q => meetF n a k q) b.ks p := ⟨_, rfl⟩
  have HR := I5 (hR.trans (si n a b p (by have := qE.out; have := qD.out; have := h_t1.out; have := h_t2.out; have := h_t3.out; have := h_t4.out; omega) (by have := qE.out; have := qD.out; have := h_t1.out; have := h_t2.out; have := h_t3.out; have := h_t4.out; omega) (by have := qE.out; have := qD.out; have := h_t1.out; have := h_t2.out; have := h_t3.out; have := h_t4.out; omega) (by have := qE.out; have := qD.out; have := h_t1.out; have := h_t2.out; have := h_t3.out; have := h_t4.out; omega) S hS))
  clear hR
  have HS := I5 hS
  clear hS
  go_wp2_with fail
  go_loopw [10, 52] (fun acc i wr => ∃ (k q : Nat) (J : Nat → TV) (l : List Tg), k ≤ eS ∧ Hid (l.length = k) ∧ i = .int .i64 k ∧ Hid (q ≤ 20000) ∧ Hid (Box wr w.heap.size 29 #[.int .u8 du, .slice eJ dV eI, .slice eU dN eT, .int .u8 ao, .bool dZ, .bool dY, .slice eF ek eE, .bool d8, .bool d7, .slice eH em eG]) ∧ Hid (Box wr (w.heap.size + 2) 29 #[.int .u8 0, .slice none 0 0, .slice none 0 0, .int .u8 0, .bool false, .bool false, .slice none 0 0, .bool false, .bool false, .slice none 0 0]) ∧ OwnG wr (w.heap.size + 3) 10 acc k (newsT J k) ∧ Hid (∀ i (hi : i < l.length), RdT (okO (okN ok (w.heap.size + 3)) acc) wr (J i) l[i]) ∧ Hid (∀ x ∈ l, Fit x) ∧ Hid (S = preO l (overF (fun k q => meetF n a k q) (b.ks.drop k) q)) ∧ Hid (MB g w wr q)) (fun _ i _ => eS - (intOf i).toNat)
  case atStart => exact ⟨0, p, (fun _ => TV.nil), [], Nat.zero_le _, I5 rfl, rfl, I5 MA.out.le, X, Z, OwnG.nil _ _ _, I5 (fun i hi => by simp at hi), I5 (fun x hx => by cases hx), I5 (by rw [pL, List.drop_zero]; exact HS.out), MW⟩
  case round =>
   clear X Y Z MW B
   obtain ⟨k, q, J, l, fy, hlk, rfl, hq, V, Z, ho, hme, hfit, gw, MR⟩ := hrel
   have O := I5 ho
   clear ho
   have kQ := Z.out.lt
   have Dr := MR.out.size
   by_cases aJ : k < eS
   case neg =>
    have fS : ¬ (k : Int) < eS := by omega
    have HE : Hid (S = some (l, q)) := I5 (by rw [gw.out]; exact nw _ _ _ (by have := Df.out; omega) _ _)
    clear gw
    obtain ⟨ra, rc, rfl, ah, jb⟩ := O.out.rowT
    have HW := I5 ah
    clear ah jb
    have CS := I5 (sA (okO (okN ok (w.heap.size + 3)) (.slice ra k rc)) l (some ⟨g, 0, none⟩) ra rc J wr (by rw [hlk.out]; exact HW.out) hme.out (by have := hlk.out; have := Df.out; have := HB.out.kids; omega) (fun x hx => (hfit.out x hx).kids))
    rw [hlk.out] at CS
    go_wp2_with fail
    refine CS.out.mono ?_
    rintro e w2 ⟨⟨gZ, gB, gz, gA, gT, gR, fZ, uo, eu, et, eY, eW, eX, fa, eZ, fw, fu, fv⟩, rfl, rt, aK⟩
    have RT := I5 rt
    have M2 := I5 (MR.out.step aK)
    replace Z := I5 (Z.out.after aK)
    have aO := aK.size
    simp only [TV.val]
    clear rt aK CS
    go_wp2_with (refine ac (cells := #[.int .u8 gZ, .slice gB gz gA, .slice gT gR fZ, .int .u8 uo, .bool eu, .bool et, .slice eY eW eX, .bool fa, .bool eZ, .slice fw fu fv]) rfl 29 _ _ rfl Z.out (by rfl) (by rfl) rfl (by kernel_rfl) (by simp [Value.oneCell']) ?_; intro u9 X9 st9)
    have R9 : RdT (okN ok w.heap.size) u9 ⟨gZ, gB, gz, gA, gT, gR, fZ, uo, eu, et, eY, eW, eX, fa, eZ, fw, fu, fv⟩ (setT l) := (RT.out.keep (w' := u9) (fun b hb => st9.other b (by rcases hb with ⟨⟨h1 | h1, -⟩, -⟩ | h1; have := MA.out.old b h1; omega; omega; omega))).mono (fun b hb => by rcases hb with ⟨⟨h1 | h1, -⟩, -⟩ | h1; exact .inl h1; exact .inr (by omega); exact .inr (by omega))
    exact bodyPost_ret (v := .agg #[.int .u8 gZ, .slice gB gz gA, .slice gT gR fZ, .int .u8 uo, .bool eu, .bool et, .slice eY eW eX, .bool fa, .bool eZ, .slice fw fu fv]) (ae rfl _ _ (by rfl) X9 Tryz.underlying29 rfl (by kernel_rfl)) rfl (MetP.ret ⟨gZ, gB, gz, gA, gT, gR, fZ, uo, eu, et, eY, eW, eX, fa, eZ, fw, fu, fv⟩ (by rw [HR.out, HE.out]; rfl) hq.out R9 (M2.out.stored st9 (by omega) (by omega)))
   case pos =>
    have fS : (k : Int) < eS := by omega
    have cL : (0 : Int) ≤ k := by omega
    have kE : k < b.ks.length := by have := Df.out; omega
    have ROW := I5 (MR.out.rowT zV.out Bg.out MA.out.own)
    obtain ⟨b0, o0, AM, a8⟩ := ROW.out.range aJ
    have RE := I5 (MR.out.rdT (HKB_.out k kE) MA.out.own)
    obtain ⟨tk, kC⟩ : ∃ t, t = b.ks[k] := ⟨_, rfl⟩
    have jy := I5 (gw.out.trans (lZ (fun k q => meetF n a k q) b.ks k kE l q))
    rw [← kC] at jy RE
    have gQ : Hid (tk.count < b.count) := I5 (by rw [kC]; exact iN (List.getElem_mem kE))
    have vp : Hid (Fit tk) := I5 (by rw [kC]; exact HB.out.kid _ (List.getElem_mem kE))
    clear kC gw ROW
    obtain ⟨v1, ic⟩ : ∃ v1, v1 = KB k := ⟨_, rfl⟩
    rw [← ic] at a8 RE
    clear ic
    obtain ⟨dt, dp, dj, dm, dn, cZ, dk, eo, dA, dy, dC, dz, dB, dF, dD, dH, dE, dG⟩ := v1
    replace a8 : wr.rangeAt b0 (o0 + k * 10) [.int .u8 dt, .slice dp dj dm, .slice dn cZ dk, .int .u8 eo, .bool dA, .bool dy, .slice dC dz dB, .bool dF, .bool dD, .slice dH dE dG] := a8
    have fM := I5 a8
    clear a8
    subst AM
    go_upto_region 18 with (refine ai rfl 29 _ rfl b0 _ rfl _ _ fM.out Tryz.underlying29 rfl (by kernel_rfl) ?_)
    let z1 := (wr.alloc (.cells #[.int .u8 dt, .slice dp dj dm, .slice dn cZ dk, .int .u8 eo, .bool dA, .bool dy, .slice dC dz dB, .bool dF, .bool dD, .slice dH dE dG] 29))
    change Code.wp _ _ _ _ z1
    have hA : Below wr.heap.size wr z1 := (Below.refl _ _).alloc (Nat.le_refl _) _
    have E1 : Hid (Box z1 wr.heap.size 29 #[.int .u8 dt, .slice dp dj dm, .slice dn cZ dk, .int .u8 eo, .bool dA, .bool dy, .slice dC dz dB, .bool dF, .bool dD, .slice dH dE dG]) := I5 (Box.new _ _ _)
    have M1 := I5 (MR.out.step hA)
    have AR := I5 (MA.out.mb M1.out hq.out)
    replace RE := I5 (RE.out.after hA)
    replace V := I5 (V.out.after hA)
    replace Z := I5 (Z.out.after hA)
    replace O := I5 (O.out.after hA)
    have M2 := I5 (fun i hi => (hme.out i hi).after hA)
    have D7 := hA.size
    clear_value z1
    clear hA fM hme MR
    have yN := I5 (fun b e => (O.out.lt b e).2)
    go_wp2_with first | (refine ab rfl 29 _ rfl E1.out (by rfl) Tryz.underlying29 rfl (by kernel_rfl) ?_) | (refine ab rfl 29 _ rfl V.out (by rfl) Tryz.underlying29 rfl (by kernel_rfl) ?_)
    refine (hM.out a tk q ⟨du, eJ, dV, eI, eU, dN, eT, ao, dZ, dY, eF, ek, eE, d8, d7, eH, em, eG⟩ ⟨dt, dp, dj, dm, dn, cZ, dk, eo, dA, dy, dC, dz, dB, dF, dD, dH, dE, dG⟩ z1 g ok (by have := gQ.out; have := HC.out; omega) HA.out vp.out AR.out (M1.out.rdT RA.out MA.out.own) RE.out).mono ?_
    rintro e w1 (⟨hr, rfl, q2, hm⟩ | ⟨t, q2, v, hr, iW, rfl, rt, hm⟩)
    ·unfold LongE
     exact ⟨rfl, MetP.long (by rw [HR.out, jy.out, hr]; rfl) (M1.out.trans hm)⟩
    have vn : Hid (Fit t) := I5 (ef n _ _ _ _ _ HA.out vp.out hr)
    replace jy : Hid (S = preO (l ++ [t]) (overF (fun k q => meetF n a k q) (b.ks.drop (k + 1)) q2)) := I5 (by rw [jy.out, hr])
    have RT0 := I5 rt
    clear hr rt
    obtain ⟨jz, jw, ju, jv, kA, kg, kz, zo, kk, ki, ko, kj, km, kw, ku, ky, kv, kx⟩ := v
    simp only [TV.val]
    replace V := I5 (hm.far V.out (by omega))
    replace Z := I5 (hm.far Z.out (by omega))
    replace O := I5 (hm.own O.out (by omega))
    replace M2 := I5 (fun i hi => hm.rdT (M2.out i hi) (by rintro ⟨h1 | h1, -⟩; exact MA.out.own h1; omega))
    replace M1 := I5 (M1.out.trans hm)
    have an := hm.size
    have nc := I5 O.out.lt
    clear hm E1 RE AR
    have ca : Below w1.heap.size w1 (w1.alloc (.cells #[.int .u8 jz, .slice jw ju jv, .slice kA kg kz, .int .u8 zo, .bool kk, .bool ki, .slice ko kj km, .bool kw, .bool ku, .slice ky kv kx] 29)) := (Below.refl _ _).alloc (Nat.le_refl _) _
    replace V := I5 (V.out.after ca)
    replace Z := I5 (Z.out.after ca)
    replace O := I5 (O.out.after ca)
    replace M2 := I5 (fun i hi => (M2.out i hi).after ca)
    replace M1 := I5 (M1.out.step ca)
    have RV := I5 ((RT0.out.mono (ok' := (okO (okN ok (w.heap.size + 3)) _)) (fun b' hb' => ⟨eO (by omega) hb', fun e => by have h3 := (nc.out b' e); rcases hb' with h1 | h1; have := MA.out.old b' h1; omega; have := h3.2; have := yN.out b' e; omega⟩)).after ca)
    have SR := I5 (k7 w1 ⟨jz, jw, ju, jv, kA, kg, kz, zo, kk, ki, ko, kj, km, kw, ku, ky, kv, kx⟩)
    have By := ca.size
    have wz := Z.out.lt
    clear ca RT0
    go_wp2_with (refine bk rfl _ _ rfl rfl O.out rfl SR.out (by omega) (by omega) ?_; intro v3 w3 fj hg3 mh; rw [ee] at fj)
    have gj : ∀ j, j < w.heap.size + 3 → j < (w1.alloc (.cells #[.int .u8 jz, .slice jw ju jv, .slice kA kg kz, .int .u8 zo, .bool kk, .bool ki, .slice ko kj km, .bool kw, .bool ku, .slice ky kv kx] 29)).heap.size → w3.heap[j]? = (w1.alloc (.cells #[.int .u8 jz, .slice jw ju jv, .slice kA kg kz, .int .u8 zo, .bool kk, .bool ki, .slice ko kj km, .bool kw, .bool ku, .slice ky kv kx] 29)).heap[j]? := fun j hj zK => hg3.block j zK (fun e => by have := (O.out.lt _ e.symm).1; omega)
    go_roundw
    case rel => exact ⟨k + 1, q2, _, l ++ [t], by omega, I5 (by simp [hlk.out]), by go_num, I5 iW, I5 ((gj _ (by omega) V.out.lt).trans V.out), I5 ((gj _ (by omega) Z.out.lt).trans Z.out), fj, I5 (dL hlk.out.symm M2.out RV.out hg3 mh), I5 (fun x hx => (List.mem_append.1 hx).elim (hfit.out x) (fun h => by rw [List.mem_singleton.1 h]; exact vn.out)), jy, I5 (M1.out.grown hg3 (fun k e => .inl (by have := (O.out.lt k e).1; constructor <;> omega)))⟩
    case measure => simp [intOf]; omega
 have t4 : ((dU : Int) == 4) = false := beq_eq_false_iff_ne.mpr (by omega)
 replace h_t4 := I5 h_t4
 by_cases h_t5 : du = 3 ∧ dU = 3
 case pos =>
  obtain ⟨h5, h6⟩ := h_t5
  have t5 : ((du : Int) == 3) = true := beq_iff_eq.mpr (by omega)
  have t6 : ((dU : Int) == 3) = true := beq_iff_eq.mpr (by omega)
  replace h5 := I5 h5
  replace h6 := I5 h6
  have CL := I5 (hL.out a.ks b.ks p eU dN eT KA fI eS fH KB x0 g ok Dg.out Df.out (fun x hx y hy => by have h1 := iN hx; have h2 := iN hy; have := HC.out; omega) HA.out.kid HB.out.kid HA.out.kids HB.out.kids (MA.out.below B) (zW.out.after B) Bh.out (fun i hi => (HKA_.out i hi).after B) (zV.out.after B) Bg.out (fun i hi => (HKB_.out i hi).after B))
  have HR := I5 (hR.trans (sj n a b p (by have := qE.out; have := qD.out; have := h5.out; have := h6.out; omega) (by have := qE.out; have := qD.out; have := h5.out; have := h6.out; omega)))
  clear hR
  go_wp2_with fail
  refine CL.out.mono ?_
  rintro e w1 (⟨hr, rfl, q2, hm⟩ | ⟨t, q2, v, hr, iW, rfl, rt, hm⟩)
  ·unfold LongE
   exact ⟨rfl, MetP.long (by rw [HR.out, hr]) (MW.out.trans hm)⟩
  obtain ⟨gZ, gB, gz, gA, gT, gR, fZ, uo, eu, et, eY, eW, eX, fa, eZ, fw, fu, fv⟩ := v
  simp only [TV.val]
  have RT := I5 rt
  have zX := I5 (HR.out.trans hr)
  replace Z := I5 (hm.far Z.out (by omega))
  have MM := I5 (MW.out.trans hm)
  have aO := hm.size
  clear rt hr hm HR CL X Y x_0 x_2 y_0 y_2
  go_wp2_with (refine ac (cells := #[.int .u8 gZ, .slice gB gz gA, .slice gT gR fZ, .int .u8 uo, .bool eu, .bool et, .slice eY eW eX, .bool fa, .bool eZ, .slice fw fu fv]) rfl 29 _ _ rfl Z.out (by rfl) (by rfl) rfl (by kernel_rfl) (by simp [Value.oneCell']) ?_; intro u9 X9 st9)
  have R9 : RdT (okN ok w.heap.size) u9 ⟨gZ, gB, gz, gA, gT, gR, fZ, uo, eu, et, eY, eW, eX, fa, eZ, fw, fu, fv⟩ t := (RT.out.keep (w' := u9) (fun b hb => st9.other b (by rcases hb with h1 | h1; have := MA.out.old b h1; omega; omega))).mono (fun b hb => eO (by omega) hb)
  exact bodyPost_ret (v := .agg #[.int .u8 gZ, .slice gB gz gA, .slice gT gR fZ, .int .u8 uo, .bool eu, .bool et, .slice eY eW eX, .bool fa, .bool eZ, .slice fw fu fv]) (ae rfl _ _ (by rfl) X9 Tryz.underlying29 rfl (by kernel_rfl)) rfl (MetP.ret ⟨gZ, gB, gz, gA, gT, gR, fZ, uo, eu, et, eY, eW, eX, fa, eZ, fw, fu, fv⟩ zX.out iW R9 (MM.out.stored st9 (by omega) (by omega)))
 have HR := I5 (hR.trans (qA n a b p (by have := qE.out; have := qD.out; have := h_t1.out; have := h_t2.out; have := h_t3.out; have := h_t4.out; omega) (by have := qE.out; have := qD.out; have := h_t1.out; have := h_t2.out; have := h_t3.out; have := h_t4.out; omega) (by have := qE.out; have := qD.out; have := h_t1.out; have := h_t2.out; have := h_t3.out; have := h_t4.out; omega) (by have := qE.out; have := qD.out; have := h_t1.out; have := h_t2.out; have := h_t3.out; have := h_t4.out; omega) (fun e => h_t5 ⟨by have := qE.out; omega, by have := qD.out; omega⟩)))
 clear hR
 have CP := I5 (tW ok a b ⟨du, eJ, dV, eI, eU, dN, eT, ao, dZ, dY, eF, ek, eE, d8, d7, eH, em, eG⟩ ⟨dU, ej, fd, ft, fI, eS, fH, bo, eB, eA, fm, fe, fk, eD, eC, fq, ff, fp⟩ x0 (RA.out.after B) (RB.out.after B) HA.out.leaf HB.out.leaf)
 by_cases h5 : du = 3
 case neg =>
  have t5 : ((du : Int) == 3) = false := beq_eq_false_iff_ne.mpr (by omega)
  clear h5 h_t5
  go_wp2_with first | (refine ab rfl 29 _ rfl X.out (by rfl) Tryz.underlying29 rfl (by kernel_rfl) ?_) | (refine ab rfl 29 _ rfl Y.out (by rfl) Tryz.underlying29 rfl (by kernel_rfl) ?_)
  refine CP.out.mono ?_
  rintro e w1 ⟨⟨gZ, gB, gz, gA, gT, gR, fZ, uo, eu, et, eY, eW, eX, fa, eZ, fw, fu, fv⟩, rfl, rt, aK⟩
  simp only [TV.val]
  have RT := I5 rt
  replace Z := I5 (Z.out.after aK)
  have MM := I5 (MW.out.step aK)
  have aO := aK.size
  clear rt aK CP X Y x_0 x_2 y_0 y_2
  go_wp2_with (refine ac (cells := #[.int .u8 gZ, .slice gB gz gA, .slice gT gR fZ, .int .u8 uo, .bool eu, .bool et, .slice eY eW eX, .bool fa, .bool eZ, .slice fw fu fv]) rfl 29 _ _ rfl Z.out (by rfl) (by rfl) rfl (by kernel_rfl) (by simp [Value.oneCell']) ?_; intro u9 X9 st9)
  have R9 : RdT (okN ok w.heap.size) u9 ⟨gZ, gB, gz, gA, gT, gR, fZ, uo, eu, et, eY, eW, eX, fa, eZ, fw, fu, fv⟩ (plainT a b) := (RT.out.keep (w' := u9) (fun b hb => st9.other b (by rcases hb with h1 | h1; have := MA.out.old b h1.1; omega; omega))).mono (fun b hb => by rcases hb with h1 | h1; exact .inl h1.1; exact .inr (by omega))
  exact bodyPost_ret (v := .agg #[.int .u8 gZ, .slice gB gz gA, .slice gT gR fZ, .int .u8 uo, .bool eu, .bool et, .slice eY eW eX, .bool fa, .bool eZ, .slice fw fu fv]) (ae rfl _ _ (by rfl) X9 Tryz.underlying29 rfl (by kernel_rfl)) rfl (MetP.ret ⟨gZ, gB, gz, gA, gT, gR, fZ, uo, eu, et, eY, eW, eX, fa, eZ, fw, fu, fv⟩ HR.out MA.out.le R9 (MM.out.stored st9 (by omega) (by omega)))
 have h6 : ¬ dU = 3 := fun e => h_t5 ⟨h5, e⟩
 have t5 : ((du : Int) == 3) = true := beq_iff_eq.mpr (by omega)
 have t6 : ((dU : Int) == 3) = false := beq_eq_false_iff_ne.mpr (by omega)
 clear h5 h6 h_t5
 go_wp2_with first | (refine ab rfl 29 _ rfl X.out (by rfl) Tryz.underlying29 rfl (by kernel_rfl) ?_) | (refine ab rfl 29 _ rfl Y.out (by rfl) Tryz.underlying29 rfl (by kernel_rfl) ?_)
 refine CP.out.mono ?_
 rintro e w1 ⟨⟨gZ, gB, gz, gA, gT, gR, fZ, uo, eu, et, eY, eW, eX, fa, eZ, fw, fu, fv⟩, rfl, rt, aK⟩
 simp only [TV.val]
 have RT := I5 rt
 replace Z := I5 (Z.out.after aK)
 have MM := I5 (MW.out.step aK)
 have aO := aK.size
 clear rt aK CP X Y x_0 x_2 y_0 y_2
 go_wp2_with (refine ac (cells := #[.int .u8 gZ, .slice gB gz gA, .slice gT gR fZ, .int .u8 uo, .bool eu, .bool et, .slice eY eW eX, .bool fa, .bool eZ, .slice fw fu fv]) rfl 29 _ _ rfl Z.out (by rfl) (by rfl) rfl (by kernel_rfl) (by simp [Value.oneCell']) ?_; intro u9 X9 st9)
 have R9 : RdT (okN ok w.heap.size) u9 ⟨gZ, gB, gz, gA, gT, gR, fZ, uo, eu, et, eY, eW, eX, fa, eZ, fw, fu, fv⟩ (plainT a b) := (RT.out.keep (w' := u9) (fun b hb => st9.other b (by rcases hb with h1 | h1; have := MA.out.old b h1.1; omega; omega))).mono (fun b hb => by rcases hb with h1 | h1; exact .inl h1.1; exact .inr (by omega))
 exact bodyPost_ret (v := .agg #[.int .u8 gZ, .slice gB gz gA, .slice gT gR fZ, .int .u8 uo, .bool eu, .bool et, .slice eY eW eX, .bool fa, .bool eZ, .slice fw fu fv]) (ae rfl _ _ (by rfl) X9 Tryz.underlying29 rfl (by kernel_rfl)) rfl (MetP.ret ⟨gZ, gB, gz, gA, gT, gR, fZ, uo, eu, et, eY, eW, eX, fa, eZ, fw, fu, fv⟩ HR.out MA.out.le R9 (MM.out.stored st9 (by omega) (by omega)))
end Go.Proofs.YtmmkaclmgnpplaaGreatDoor

import Derived.Test.YtmmkaclmgnpplaaGreatDoorMz40
set_option maxRecDepth 100000
set_option maxHeartbeats 64000000
set_option linter.unusedSimpArgs false
set_option linter.unusedVariables false
namespace Go.Proofs.YtmmkaclmgnpplaaGreatDoor
open Go.RowKit
theorem ph {P : Program} {o : Oper} {a : Act} {w : World} {K : Act → World → Prop} {Q : Exit → Act → World → Prop} (f : FuncId) (args : Array Value) (hr : (execOp a.eval o).run P w = .ok (.enter f args) w) (R : Ending → World → Prop) (hc : Calls P f args w R)
  (h : ∀ e w', R e w' → (∃ v, e = .returned v ∧ K (a.put o.dst v) w') ∨ (∃ c, e = .panicked c ∧ Q (.panic c) a w')) : o.wp P a w K Q := by
 unfold Oper.wp
 rw [hr]
 refine hc.mono fun e w' he => ?_
 rcases h e w' he with ⟨v, rfl, hv⟩ | ⟨c, rfl, hv⟩
 ·exact hv
 ·exact hv
theorem wm (n : Nat) (xs ys : List Tg) (p : Nat) (h : xs.length < ys.length) (S : Option (Option (List Tg) × Nat)) (hS : S = listF (meetF n) ys xs p) : lists n xs ys p = listO S := by
 unfold lists
 rw [if_pos h, hS]
 rfl
theorem wn (n : Nat) (xs ys : List Tg) (p : Nat) (h : ¬ xs.length < ys.length) (S : Option (Option (List Tg) × Nat)) (hS : S = listF (meetF n) xs ys p) : lists n xs ys p = listO S := by
 unfold lists
 rw [if_neg h, hS]
 rfl
theorem yj (n : Nat) (ii : MeetOk n) (xs ys : List Tg) (p : Nat) (xa : Option Addr) (xn xc : Nat) (KX : Nat → TV) (ya : Option Addr) (yn yc : Nat) (KY : Nat → TV) (w : World) (g : Nat) (ok : Nat → Prop)
    (zE : xn = xs.length) (BX : yn = ys.length) (CF : ∀ x ∈ xs, ∀ y ∈ ys, x.count + y.count ≤ n) (Cy : ∀ x ∈ xs, Fit x) (Cx : ∀ y ∈ ys, Fit y) (Cd : xs.length ≤ 700) (BZ : ys.length ≤ 700) (hm : MArg ok g w p)
    (yJ : RowT w xa xn xc KX) (Ct : InB ok xa xn) (Cr : ∀ i (hi : i < xs.length), RdT ok w (KX i) xs[i]) (yI : RowT w ya yn yc KY) (Cs : InB ok ya yn) (Cq : ∀ i (hi : i < ys.length), RdT ok w (KY i) ys[i]) (aJ : xs.length < ys.length) :
    Calls Tryz.prog 86 #[.pointer (some ⟨g, 0, none⟩), .slice xa xn xc, .slice ya yn yc] w (MetP ok g (lists n xs ys p) w) := by
  have MA := I5 hm
  have hM := I5 ii
  have FE := I5 CF
  have FD := I5 Cy
  have FC := I5 Cx
  have Db := I5 Cd
  have Da := I5 BZ
  have zu := I5 zE
  have zt := I5 BX
  have Fj := I5 yJ
  have Fi := I5 yI
  have Fz := I5 Ct
  have Fy := I5 Cs
  have Fw := I5 Cr
  have Fv := I5 Cq
  have AL := hm.box.lt
  have AE := Nat.le_trans yJ.1 yJ.2.1
  have AD := Nat.le_trans yI.1 yI.2.1
  unfold maxLen at AE AD
  obtain ⟨R, hR⟩ : ∃ R, R = lists n xs ys p := ⟨_, rfl⟩
  rw [← hR]
  obtain ⟨S, hS⟩ : ∃ S, S = listF (meetF n) ys xs p := ⟨_, rfl⟩
  have HR := I5 (hR.trans (wm n xs ys p aJ S hS))
  have HS := I5 hS
  have tl : (xn : Int) < yn := by omega
  clear hR hS hm ii CF Cy Cx Cd BZ zE BX yJ yI Ct Cs Cr Cq aJ
  let x0 := (w.alloc (.cells #[.int .u8 0, .slice none 0 0, .slice none 0 0, .int .u8 0, .bool false, .bool false, .slice none 0 0, .bool false, .bool false, .slice none 0 0] 29))
  have B : Below w.heap.size w x0 := (Below.refl _ _).alloc (Nat.le_refl _) _
  have Z : Hid (Box x0 w.heap.size 29 #[.int .u8 0, .slice none 0 0, .slice none 0 0, .int .u8 0, .bool false, .bool false, .slice none 0 0, .bool false, .bool false, .slice none 0 0]) := I5 (Box.new _ _ _)
  go_enter Tryz.func86, Tryz.ntmps86
  go_upto_region 1 with fail
  change Code.wp _ _ _ _ x0
  clear_value x0
  have MW := I5 ((MB.refl MA.out.box).step B)
  have up := B.size
  clear B
  go_wp2_with fail
  go_loopw [7, 19] (fun acc i wr => ∃ (k q : Nat) (J : Nat → TV) (l : List Tg), k ≤ yn ∧ Hid (l.length = k) ∧ i = .int .i64 k ∧ Hid (q ≤ 20000) ∧ Hid (Box wr w.heap.size 29 #[.int .u8 0, .slice none 0 0, .slice none 0 0, .int .u8 0, .bool false, .bool false, .slice none 0 0, .bool false, .bool false, .slice none 0 0]) ∧ OwnG wr (w.heap.size + 1) 10 acc k (newsT J k) ∧ Hid (∀ i (hi : i < l.length), RdT (okO (okN ok (w.heap.size + 1)) acc) wr (J i) l[i]) ∧ Hid (∀ x ∈ l, Fit x) ∧ Hid (S = preLs l (listF (meetF n) (ys.drop k) (xs.drop k) q)) ∧ Hid (MB g w wr q)) (fun _ i _ => yn - (intOf i).toNat)
  case atStart => exact ⟨0, p, (fun _ => TV.nil), [], Nat.zero_le _, I5 rfl, rfl, I5 MA.out.le, Z, OwnG.nil _ _ _, I5 (fun i hi => by simp at hi), I5 (fun x hx => by cases hx), I5 (by rw [pM, List.drop_zero, List.drop_zero]; exact HS.out), MW⟩
  case round =>
    clear Z MW up
    obtain ⟨k, q, J, l, fy, hlk, rfl, hq, Z, ho, hme, hfit, gw, MR⟩ := hrel
    have O := I5 ho
    clear ho
    have kQ := Z.out.lt
    have Dr := MR.out.size
    by_cases aJ : k < yn
    case neg =>
      have fS : ¬ (k : Int) < yn := by omega
      have HE : Hid (S = some (some l, q)) := I5 (by rw [gw.out]; exact nH _ _ _ _ (by have := zt.out; omega) _ _)
      clear gw
      obtain ⟨ra, rc, rfl, ah, jb⟩ := O.out.rowT
      clear ah jb
      go_wp2_with (refine ac (cells := #[.int .u8 3, .slice none 0 0, .slice ra k rc, .int .u8 0, .bool false, .bool false, .slice none 0 0, .bool false, .bool false, .slice none 0 0]) rfl 29 _ _ rfl Z.out (by rfl) (by rfl) rfl (by kernel_rfl) (by simp [Value.oneCell']) ?_; intro u9 X9 st9)
      have O9 := O.out.keep (w' := u9) (by have := (st9.below 0 wr (Nat.zero_le _) (Below.refl _ _)).size; omega) (fun g hg => st9.other g (by have := (O.out.lt g hg).1; omega))
      obtain ⟨FL, FK, e2, zp, pe⟩ := O9.rowT
      cases e2
      have R9 : RdT (okN ok w.heap.size) u9 ⟨3, none, 0, 0, ra, k, rc, 0, false, false, none, 0, 0, false, false, none, 0, 0⟩ (.mk 3 [] l noR) := hG _ u9 3 (by omega) ra k rc J l zp (pe.mono (fun b hb => .inr (by omega))) hlk.out.symm (fun i hi => ((hme.out i hi).keep (w' := u9) (fun b hb => st9.other b (by rcases hb.1 with h1 | h1; have := MA.out.old b h1; omega; omega))).mono (fun b hb => eO (by omega) hb.1))
      exact bodyPost_ret (v := .agg #[.int .u8 3, .slice none 0 0, .slice ra k rc, .int .u8 0, .bool false, .bool false, .slice none 0 0, .bool false, .bool false, .slice none 0 0]) (ae rfl _ _ (by rfl) X9 Tryz.underlying29 rfl (by kernel_rfl)) rfl (MetP.ret ⟨3, none, 0, 0, ra, k, rc, 0, false, false, none, 0, 0, false, false, none, 0, 0⟩ (by rw [HR.out, HE.out]; rfl) hq.out R9 (MR.out.stored st9 (by omega) (by omega)))
    case pos =>
      have fS : (k : Int) < yn := by omega
      have cL : (0 : Int) ≤ k := by omega
      have kE : k < ys.length := by have := zt.out; omega
      have ROW := I5 (MR.out.rowT Fi.out Fy.out MA.out.own)
      obtain ⟨b0, o0, AM, a8⟩ := ROW.out.range aJ
      have RE := I5 (MR.out.rdT (Fv.out k kE) MA.out.own)
      obtain ⟨tk, kC⟩ : ∃ t, t = ys[k] := ⟨_, rfl⟩
      have er : Hid (∀ h2 : k < xs.length, S = (match meetF n tk (xs[k]'h2) q with
            | none => none
            | some (t, q) => if t.none? then some (none, q) else preLs (l ++ [t]) (listF (meetF n) (ys.drop (k + 1)) (xs.drop (k + 1)) q))) := I5 (fun h2 => by rw [gw.out, kC]; exact mf _ _ _ k kE h2 l q)
      have mP : Hid (xs.length ≤ k → S = (if tk.none? then some (none, q) else preLs (l ++ [tk]) (listF (meetF n) (ys.drop (k + 1)) (xs.drop (k + 1)) q))) := I5 (fun h2 => by rw [gw.out, kC]; exact nG _ _ _ k kE h2 l q)
      have gQ : Hid (∀ y ∈ xs, tk.count + y.count ≤ n) := I5 (fun y hy => by rw [kC]; have := FE.out y hy _ (List.getElem_mem kE); omega)
      have vp : Hid (Fit tk) := I5 (by rw [kC]; exact FC.out _ (List.getElem_mem kE))
      rw [← kC] at RE
      clear kC gw ROW
      obtain ⟨v1, ic⟩ : ∃ v1, v1 = KY k := ⟨_, rfl⟩
      rw [← ic] at a8 RE
      clear ic
      obtain ⟨dt, dp, dj, dm, dn, cZ, dk, eo, dA, dy, dC, dz, dB, dF, dD, dH, dE, dG⟩ := v1
      replace a8 : wr.rangeAt b0 (o0 + k * 10) [.int .u8 dt, .slice dp dj dm, .slice dn cZ dk, .int .u8 eo, .bool dA, .bool dy, .slice dC dz dB, .bool dF, .bool dD, .slice dH dE dG] := a8
      have fM := I5 a8
      clear a8
      subst AM
      go_upto_region 7 with (refine ai rfl 29 _ rfl b0 _ rfl _ _ fM.out Tryz.underlying29 rfl (by kernel_rfl) ?_)
      let z1 := (wr.alloc (.cells #[.int .u8 dt, .slice dp dj dm, .slice dn cZ dk, .int .u8 eo, .bool dA, .bool dy, .slice dC dz dB, .bool dF, .bool dD, .slice dH dE dG] 29))
      change Code.wp _ _ _ _ z1
      have hA : Below wr.heap.size wr z1 := (Below.refl _ _).alloc (Nat.le_refl _) _
      have E1 : Hid (Box z1 wr.heap.size 29 #[.int .u8 dt, .slice dp dj dm, .slice dn cZ dk, .int .u8 eo, .bool dA, .bool dy, .slice dC dz dB, .bool dF, .bool dD, .slice dH dE dG]) := I5 (Box.new _ _ _)
      have M1 := I5 (MR.out.step hA)
      replace RE := I5 (RE.out.after hA)
      replace Z := I5 (Z.out.after hA)
      have yN := I5 (fun b e => (O.out.lt b e).2)
      replace O := I5 (O.out.after hA)
      have M2 := I5 (fun i hi => ((hme.out i hi).there.mono (ok' := fun b => okO (okN ok (w.heap.size + 1)) _ b ∧ b ≠ wr.heap.size) (fun b hb => ⟨hb.1, by have := hb.2; omega⟩)).after hA)
      have D7 := hA.size
      clear_value z1
      have FQ := E1.out.lt
      generalize wr.heap.size = yE at *
      clear hA fM hme MR
      by_cases h2 : k < xn
      case pos =>
        have nM : (k : Int) < xn := by omega
        have oQ : k < xs.length := by have := zu.out; omega
        have ROWB := I5 (M1.out.rowT Fj.out Fz.out MA.out.own)
        have RF := I5 (M1.out.rdT (Fw.out k oQ) MA.out.own)
        replace er := I5 (er.out oQ)
        replace gQ := I5 (gQ.out _ (List.getElem_mem oQ))
        have Bi := I5 (FD.out _ (List.getElem_mem oQ))
        obtain ⟨tb, Cg⟩ : ∃ t, t = xs[k] := ⟨_, rfl⟩
        rw [← Cg] at er gQ Bi RF
        clear Cg mP
        obtain ⟨b1, o1, ED, -⟩ := ROWB.out.range h2
        obtain ⟨v2, vq⟩ : ∃ v2, v2 = KX k := ⟨_, rfl⟩
        rw [← vq] at RF
        have Fc := I5 vq
        clear vq
        subst ED
        obtain ⟨yU, qm, qh, qk, ql, qg, qj, fo, yQ, yO, yS, yP, yR, yX, yV, yZ, yW, yY⟩ := v2
        go_upto_region 8 with fail
        have AR := I5 (MA.out.mb M1.out hq.out)
        have aF : Keeps (fun w' => Box w' yE 29 #[.int .u8 dt, .slice dp dj dm, .slice dn cZ dk, .int .u8 eo, .bool dA, .bool dy, .slice dC dz dB, .bool dF, .bool dD, .slice dH dE dG] ∧ RowT w' (some ⟨b1, o1, none⟩) xn xc KX) := fun w1 w2 h b => ⟨h.1.after b, h.2.after b⟩
        refine aX (w := z1) [6, 7] (fun w' => Box w' yE 29 #[.int .u8 dt, .slice dp dj dm, .slice dn cZ dk, .int .u8 eo, .bool dA, .bool dy, .slice dC dz dB, .bool dF, .bool dD, .slice dH dE dG] ∧ RowT w' (some ⟨b1, o1, none⟩) xn xc KX) rfl ⟨E1.out.after (Below.refl _ _).drew, ROWB.out.after (Below.refl _ _).drew⟩ ?_
        refine ag 0 aF rfl (by kernel_rfl) (by kernel_rfl) (by kernel_rfl) (by kernel_rfl) rfl (fun _ _ _ _ h => h) (.pointer (some ⟨g, 0, none⟩)) (fun w' h => by simp [go_sem]) ?_
        simp only [Act.put, I2, I3, I4]
        refine ag 1 aF rfl (by kernel_rfl) (by kernel_rfl) (by kernel_rfl) (by kernel_rfl) rfl (fun _ _ _ _ h => h) (.agg #[.int .u8 dt, .slice dp dj dm, .slice dn cZ dk, .int .u8 eo, .bool dA, .bool dy, .slice dC dz dB, .bool dF, .bool dD, .slice dH dE dG]) (fun w' h => ds rfl h.1 (by rfl) Tryz.underlying29 rfl (by kernel_rfl)) ?_
        simp only [Act.put, I2, I3, I4]
        refine ag 2 aF rfl (by kernel_rfl) (by kernel_rfl) (by kernel_rfl) (by kernel_rfl) rfl (fun _ _ _ _ h => h) (.slice (some ⟨b1, o1, none⟩) xn xc) (fun w' h => by simp [go_sem]) ?_
        simp only [Act.put, I2, I3, I4]
        refine ag 3 aF rfl (by kernel_rfl) (by kernel_rfl) (by kernel_rfl) (by kernel_rfl) rfl (fun _ _ _ _ h => h) (.int .i64 k) (fun w' h => by simp [go_sem]) ?_
        simp only [Act.put, I2, I3, I4]
        refine ag 4 aF rfl (by kernel_rfl) (by kernel_rfl) (by kernel_rfl) (by kernel_rfl) rfl (fun _ _ _ _ h => h) (.pointer (some ⟨b1, o1 + k * 10, none⟩)) (fun w' h => by simp [go_sem]; intro hh; omega) ?_
        simp only [Act.put, I2, I3, I4]
        refine ag 5 aF rfl (by kernel_rfl) (by kernel_rfl) (by kernel_rfl) (by kernel_rfl) rfl (fun _ _ _ _ h => h) (.agg #[.int .u8 yU, .slice qm qh qk, .slice ql qg qj, .int .u8 fo, .bool yQ, .bool yO, .slice yS yP yR, .bool yX, .bool yV, .slice yZ yW yY]) (fun w' h => fY (cs := [.int .u8 yU, .slice qm qh qk, .slice ql qg qj, .int .u8 fo, .bool yQ, .bool yO, .slice yS yP yR, .bool yX, .bool yV, .slice yZ yW yY]) rfl (by have h2 := h.2.rangeA h2; rw [← Fc.out] at h2; exact h2) (by rfl) Tryz.underlying29 rfl (by kernel_rfl)) ?_
        simp only [Act.put, I2, I3, I4]
        refine dr 6 rfl (by kernel_rfl) (by kernel_rfl) rfl ?_
        intro z2 b2 s2
        replace b2 := (Below.refl z1.heap.size z1).drew.trans b2
        replace M1 := I5 (M1.out.step b2)
        replace AR := I5 (AR.out.below b2)
        replace Z := I5 (Z.out.after b2)
        replace O := I5 (O.out.after b2)
        replace M2 := I5 (fun i hi => (M2.out i hi).after b2)
        have D6 := b2.size
        have yw := s2.1.lt
        refine ph 31 #[.pointer (some ⟨g, 0, none⟩), .agg #[.int .u8 dt, .slice dp dj dm, .slice dn cZ dk, .int .u8 eo, .bool dA, .bool dy, .slice dC dz dB, .bool dF, .bool dD, .slice dH dE dG], .agg #[.int .u8 yU, .slice qm qh qk, .slice ql qg qj, .int .u8 fo, .bool yQ, .bool yO, .slice yS yP yR, .bool yX, .bool yV, .slice yZ yW yY]] (by simp [go_sem]) _ (hM.out tk tb q ⟨dt, dp, dj, dm, dn, cZ, dk, eo, dA, dy, dC, dz, dB, dF, dD, dH, dE, dG⟩ ⟨yU, qm, qh, qk, ql, qg, qj, fo, yQ, yO, yS, yP, yR, yX, yV, yZ, yW, yY⟩ z2 g ok (by have := gQ.out; omega) vp.out Bi.out AR.out (RE.out.after b2) (RF.out.after b2)) ?_
        rintro e w1 (⟨hr, rfl, q2, hm⟩ | ⟨t, q2, v, hr, iW, rfl, rt, hm⟩)
        · refine .inr ⟨_, rfl, ?_⟩
          exact ⟨rfl, MetP.long (by rw [HR.out, er.out, hr]; rfl) (M1.out.trans hm)⟩
        obtain ⟨jz, jw, ju, jv, kA, kg, kz, zo, kk, ki, ko, kj, km, kw, ku, ky, kv, kx⟩ := v
        refine .inl ⟨.agg #[.int .u8 jz, .slice jw ju jv, .slice kA kg kz, .int .u8 zo, .bool kk, .bool ki, .slice ko kj km, .bool kw, .bool ku, .slice ky kv kx], rfl, ?_⟩
        simp only [Act.put, I2, I3, I4]
        have vn : Hid (Fit t) := I5 (ef n _ _ _ _ _ vp.out Bi.out hr)
        have HT : Hid (S = if t.none? then some (none, q2) else preLs (l ++ [t]) (listF (meetF n) (ys.drop (k + 1)) (xs.drop (k + 1)) q2)) := I5 (by rw [er.out, hr])
        replace iW := I5 iW
        have Cw : ¬ yE = g := by omega
        have E2 := I5 (hm.far s2.1 Cw)
        replace Z := I5 (hm.far Z.out (by omega))
        replace O := I5 (hm.own O.out (by omega))
        replace M2 := I5 (fun i hi => hm.rdT (M2.out i hi) (by rintro ⟨⟨h1 | h1, -⟩, -⟩; exact MA.out.own h1; omega))
        replace M1 := I5 (M1.out.trans hm)
        have an := hm.size
        have nc := I5 O.out.lt
        have RT := I5 (rt.mono (ok' := fun b => okO (okN ok (w.heap.size + 1)) _ b ∧ b ≠ yE) (fun b' hb' => ⟨⟨eO (by omega) hb', fun e => by have h3 := (nc.out b' e); rcases hb' with h1 | h1; have := MA.out.old b' h1; omega; have := h3.2; have := yN.out b' e; omega⟩, by rcases hb' with h1 | h1; have := MA.out.old b' h1; omega; omega⟩))
        clear hr rt hm RE RF AR er
        refine es 7 rfl (by kernel_rfl) rfl ?_
        intro z3 b3 _
        refine dW (cells := #[.int .u8 jz, .slice jw ju jv, .slice kA kg kz, .int .u8 zo, .bool kk, .bool ki, .slice ko kj km, .bool kw, .bool ku, .slice ky kv kx]) 29 _ _ rfl (E2.out.after b3) (by rfl) (by rfl) rfl (by kernel_rfl) (by simp [Value.oneCell']) ?_
        intro z4 E4 st4
        refine ⟨trivial, ?_⟩
        simp only [Act.put, I2, I3, I4]
        refine cB (by kernel_rfl) ?_
        intro z5 b5 _
        replace Z := I5 (Box.after (w := z4) ((st4.other _ (by omega)).trans (Z.out.after b3)) b5)
        have b34 := st4.below 0 z3 (Nat.zero_le _) (Below.refl _ _)
        have hsz34 := b34.size
        have D5 := b3.size
        replace O := I5 (OwnG.after ((O.out.after b3).keep (w' := z4) (by omega) (fun j hj => st4.other j (by have := yN.out j hj; omega))) b5)
        replace M2 := I5 (fun i hi => RdT.after (((M2.out i hi).after b3).keep (w' := z4) (fun j hj => st4.other j hj.2)) b5)
        replace RT := I5 (RdT.after ((RT.out.after b3).keep (w' := z4) (fun j hj => st4.other j hj.2)) b5)
        replace M2 := I5 (fun i hi => (M2.out i hi).mono (fun _ h => h.1))
        replace RT := I5 (RT.out.mono (fun _ h => h.1))
        have E := I5 (E4.after b5)
        replace M1 := I5 (((M1.out.step b3).stored st4 (by omega) Cw).step b5)
        have DZ := b5.size
        clear b2 s2 b3 st4 E4 b5 b34 aF E1 E2
        obtain ⟨no, gy⟩ : ∃ m, m = t.none? := ⟨_, rfl⟩
        go_wp2_with (refine ab rfl 29 _ rfl E.out (by rfl) Tryz.underlying29 rfl (by kernel_rfl) ?_)
        refine (fX t ⟨jz, jw, ju, jv, kA, kg, kz, zo, kk, ki, ko, kj, km, kw, ku, ky, kv, kx⟩ z5 (RT.out.mono (fun _ _ => trivial))).mono ?_
        rintro e w3 ⟨rfl, bK⟩
        replace E := I5 (E.out.after bK)
        replace Z := I5 (Z.out.after bK)
        replace O := I5 (O.out.after bK)
        replace M2 := I5 (fun i hi => (M2.out i hi).after bK)
        replace M1 := I5 (M1.out.step bK)
        replace RT := I5 (RT.out.after bK)
        have Bz := bK.size
        clear bK
        rw [← gy] at HT ⊢
        clear gy
        cases no with
        | true =>
          go_wp2_with fail
          refine (bj w3).mono ?_
          rintro e w4 ⟨⟨oE, oM, oy, oL, mZ, ox, oK, no, oB, oz, oD, oA, oC, oH, oF, oJ, oG, oI⟩, rfl, rn, hb4⟩
          have RN := I5 rn
          replace Z := I5 (Z.out.after hb4)
          replace M1 := I5 (M1.out.step hb4)
          have At := M1.out.size
          simp only [TV.val]
          clear rn
          go_wp2_with (refine ac (cells := #[.int .u8 oE, .slice oM oy oL, .slice mZ ox oK, .int .u8 no, .bool oB, .bool oz, .slice oD oA oC, .bool oH, .bool oF, .slice oJ oG oI]) rfl 29 _ _ rfl Z.out (by rfl) (by rfl) rfl (by kernel_rfl) (by simp [Value.oneCell']) ?_; intro u9 X9 st9)
          have R9 : RdT (okN ok w.heap.size) u9 ⟨oE, oM, oy, oL, mZ, ox, oK, no, oB, oz, oD, oA, oC, oH, oF, oJ, oG, oI⟩ noT := (RN.out.keep (w' := u9) (fun b hb => st9.other b (by have h1 : w3.heap.size ≤ b := hb; omega))).mono (fun b hb => by have h1 : w3.heap.size ≤ b := hb; exact .inr (by omega))
          exact bodyPost_ret (v := .agg #[.int .u8 oE, .slice oM oy oL, .slice mZ ox oK, .int .u8 no, .bool oB, .bool oz, .slice oD oA oC, .bool oH, .bool oF, .slice oJ oG oI]) (ae rfl _ _ (by rfl) X9 Tryz.underlying29 rfl (by kernel_rfl)) rfl (MetP.ret ⟨oE, oM, oy, oL, mZ, ox, oK, no, oB, oz, oD, oA, oC, oH, oF, oJ, oG, oI⟩ (by rw [HR.out, HT.out]; rfl) iW.out R9 (M1.out.stored st9 (by omega) (by omega)))
        | false =>
          replace HT : Hid (S = preLs (l ++ [t]) (listF (meetF n) (ys.drop (k + 1)) (xs.drop (k + 1)) q2)) := I5 (by rw [HT.out]; rfl)
          have ca : Below w3.heap.size w3 (w3.alloc (.cells #[.int .u8 jz, .slice jw ju jv, .slice kA kg kz, .int .u8 zo, .bool kk, .bool ki, .slice ko kj km, .bool kw, .bool ku, .slice ky kv kx] 29)) := (Below.refl _ _).alloc (Nat.le_refl _) _
          replace Z := I5 (Z.out.after ca)
          replace O := I5 (O.out.after ca)
          replace M2 := I5 (fun i hi => (M2.out i hi).after ca)
          replace M1 := I5 (M1.out.step ca)
          replace RT := I5 (RT.out.after ca)
          have SR := I5 (k7 w3 ⟨jz, jw, ju, jv, kA, kg, kz, zo, kk, ki, ko, kj, km, kw, ku, ky, kv, kx⟩)
          have wz := Z.out.lt
          clear ca
          go_wp2_with first | (refine ab rfl 29 _ rfl E.out (by rfl) Tryz.underlying29 rfl (by kernel_rfl) ?_) | (refine bk rfl _ _ rfl rfl O.out rfl SR.out (by have := Db.out; have := Da.out; have := zu.out; have := zt.out; omega) (by omega) ?_; intro v3 w5 fj hg3 mh; rw [ee] at fj)
          go_roundw
          case rel => exact ⟨k + 1, q2, _, l ++ [t], by omega, I5 (by simp [hlk.out]), by go_num, iW, I5 ((hg3.block _ Z.out.lt (fun e => by have := (O.out.lt _ e.symm).1; omega)).trans Z.out), fj, I5 (dL hlk.out.symm M2.out RT.out hg3 mh), I5 (fun x hx => (List.mem_append.1 hx).elim (hfit.out x) (fun h => by rw [List.mem_singleton.1 h]; exact vn.out)), HT, I5 (M1.out.grown hg3 (fun k e => .inl (by have := (O.out.lt k e).1; constructor <;> omega)))⟩
          case measure => simp [intOf]; omega
      case neg =>
        have nM : ¬ (k : Int) < xn := by omega
        have HT := I5 (mP.out (by have := zu.out; omega))
        clear er mP
        have vn := vp
        have E := E1
        clear E1
        replace M2 := I5 (fun i hi => (M2.out i hi).mono (fun _ h => h.1))
        have RT := I5 (RE.out.mono (ok' := (okO (okN ok (w.heap.size + 1)) _)) (fun b' hb' => ⟨.inl hb', fun e => by have h3 := (O.out.lt b' e).1; have := MA.out.old b' hb'; omega⟩))
        clear RE
        obtain ⟨no, gy⟩ : ∃ m, m = tk.none? := ⟨_, rfl⟩
        go_wp2_with (refine ab rfl 29 _ rfl E.out (by rfl) Tryz.underlying29 rfl (by kernel_rfl) ?_)
        refine (fX tk ⟨dt, dp, dj, dm, dn, cZ, dk, eo, dA, dy, dC, dz, dB, dF, dD, dH, dE, dG⟩ z1 (RT.out.mono (fun _ _ => trivial))).mono ?_
        rintro e w3 ⟨rfl, bK⟩
        replace E := I5 (E.out.after bK)
        replace Z := I5 (Z.out.after bK)
        replace O := I5 (O.out.after bK)
        replace M2 := I5 (fun i hi => (M2.out i hi).after bK)
        replace M1 := I5 (M1.out.step bK)
        replace RT := I5 (RT.out.after bK)
        have Bz := bK.size
        clear bK
        rw [← gy] at HT ⊢
        clear gy
        cases no with
        | true =>
          go_wp2_with fail
          refine (bj w3).mono ?_
          rintro e w4 ⟨⟨oE, oM, oy, oL, mZ, ox, oK, no, oB, oz, oD, oA, oC, oH, oF, oJ, oG, oI⟩, rfl, rn, hb4⟩
          have RN := I5 rn
          replace Z := I5 (Z.out.after hb4)
          replace M1 := I5 (M1.out.step hb4)
          have At := M1.out.size
          simp only [TV.val]
          clear rn
          go_wp2_with (refine ac (cells := #[.int .u8 oE, .slice oM oy oL, .slice mZ ox oK, .int .u8 no, .bool oB, .bool oz, .slice oD oA oC, .bool oH, .bool oF, .slice oJ oG oI]) rfl 29 _ _ rfl Z.out (by rfl) (by rfl) rfl (by kernel_rfl) (by simp [Value.oneCell']) ?_; intro u9 X9 st9)
          have R9 : RdT (okN ok w.heap.size) u9 ⟨oE, oM, oy, oL, mZ, ox, oK, no, oB, oz, oD, oA, oC, oH, oF, oJ, oG, oI⟩ noT := (RN.out.keep (w' := u9) (fun b hb => st9.other b (by have h1 : w3.heap.size ≤ b := hb; omega))).mono (fun b hb => by have h1 : w3.heap.size ≤ b := hb; exact .inr (by omega))
          exact bodyPost_ret (v := .agg #[.int .u8 oE, .slice oM oy oL, .slice mZ ox oK, .int .u8 no, .bool oB, .bool oz, .slice oD oA oC, .bool oH, .bool oF, .slice oJ oG oI]) (ae rfl _ _ (by rfl) X9 Tryz.underlying29 rfl (by kernel_rfl)) rfl (MetP.ret ⟨oE, oM, oy, oL, mZ, ox, oK, no, oB, oz, oD, oA, oC, oH, oF, oJ, oG, oI⟩ (by rw [HR.out, HT.out]; rfl) hq.out R9 (M1.out.stored st9 (by omega) (by omega)))
        | false =>
          replace HT : Hid (S = preLs (l ++ [tk]) (listF (meetF n) (ys.drop (k + 1)) (xs.drop (k + 1)) q)) := I5 (by rw [HT.out]; rfl)
          have ca : Below w3.heap.size w3 (w3.alloc (.cells #[.int .u8 dt, .slice dp dj dm, .slice dn cZ dk, .int .u8 eo, .bool dA, .bool dy, .slice dC dz dB, .bool dF, .bool dD, .slice dH dE dG] 29)) := (Below.refl _ _).alloc (Nat.le_refl _) _
          replace Z := I5 (Z.out.after ca)
          replace O := I5 (O.out.after ca)
          replace M2 := I5 (fun i hi => (M2.out i hi).after ca)
          replace M1 := I5 (M1.out.step ca)
          replace RT := I5 (RT.out.after ca)
          have SR := I5 (k7 w3 ⟨dt, dp, dj, dm, dn, cZ, dk, eo, dA, dy, dC, dz, dB, dF, dD, dH, dE, dG⟩)
          have wz := Z.out.lt
          clear ca
          go_wp2_with first | (refine ab rfl 29 _ rfl E.out (by rfl) Tryz.underlying29 rfl (by kernel_rfl) ?_) | (refine bk rfl _ _ rfl rfl O.out rfl SR.out (by have := Db.out; have := Da.out; have := zu.out; have := zt.out; omega) (by omega) ?_; intro v3 w5 fj hg3 mh; rw [ee] at fj)
          go_roundw
          case rel => exact ⟨k + 1, q, _, l ++ [tk], by omega, I5 (by simp [hlk.out]), by go_num, hq, I5 ((hg3.block _ Z.out.lt (fun e => by have := (O.out.lt _ e.symm).1; omega)).trans Z.out), fj, I5 (dL hlk.out.symm M2.out RT.out hg3 mh), I5 (fun x hx => (List.mem_append.1 hx).elim (hfit.out x) (fun h => by rw [List.mem_singleton.1 h]; exact vn.out)), HT, I5 (M1.out.grown hg3 (fun k e => .inl (by have := (O.out.lt k e).1; constructor <;> omega)))⟩
          case measure => simp [intOf]; omega
theorem yk (n : Nat) (ii : MeetOk n) (xs ys : List Tg) (p : Nat) (xa : Option Addr) (xn xc : Nat) (KX : Nat → TV) (ya : Option Addr) (yn yc : Nat) (KY : Nat → TV) (w : World) (g : Nat) (ok : Nat → Prop)
    (zE : xn = xs.length) (BX : yn = ys.length) (CF : ∀ x ∈ xs, ∀ y ∈ ys, x.count + y.count ≤ n) (Cy : ∀ x ∈ xs, Fit x) (Cx : ∀ y ∈ ys, Fit y) (Cd : xs.length ≤ 700) (BZ : ys.length ≤ 700) (hm : MArg ok g w p)
    (yJ : RowT w xa xn xc KX) (Ct : InB ok xa xn) (Cr : ∀ i (hi : i < xs.length), RdT ok w (KX i) xs[i]) (yI : RowT w ya yn yc KY) (Cs : InB ok ya yn) (Cq : ∀ i (hi : i < ys.length), RdT ok w (KY i) ys[i]) (aJ : ¬ xs.length < ys.length) :
    Calls Tryz.prog 86 #[.pointer (some ⟨g, 0, none⟩), .slice xa xn xc, .slice ya yn yc] w (MetP ok g (lists n xs ys p) w) := by
  have MA := I5 hm
  have hM := I5 ii
  have FE := I5 CF
  have FD := I5 Cy
  have FC := I5 Cx
  have Db := I5 Cd
  have Da := I5 BZ
  have zu := I5 zE
  have zt := I5 BX
  have Fj := I5 yJ
  have Fi := I5 yI
  have Fz := I5 Ct
  have Fy := I5 Cs
  have Fw := I5 Cr
  have Fv := I5 Cq
  have AL := hm.box.lt
  have AE := Nat.le_trans yJ.1 yJ.2.1
  have AD := Nat.le_trans yI.1 yI.2.1
  unfold maxLen at AE AD
  obtain ⟨R, hR⟩ : ∃ R, R = lists n xs ys p := ⟨_, rfl⟩
  rw [← hR]
  obtain ⟨S, hS⟩ : ∃ S, S = listF (meetF n) xs ys p := ⟨_, rfl⟩
  have HR := I5 (hR.trans (wn n xs ys p aJ S hS))
  have HS := I5 hS
  have tl : ¬ (xn : Int) < yn := by omega
  clear hR hS hm ii CF Cy Cx Cd BZ zE BX yJ yI Ct Cs Cr Cq aJ
  let x0 := (w.alloc (.cells #[.int .u8 0, .slice none 0 0, .slice none 0 0, .int .u8 0, .bool false, .bool false, .slice none 0 0, .bool false, .bool false, .slice none 0 0] 29))
  have B : Below w.heap.size w x0 := (Below.refl _ _).alloc (Nat.le_refl _) _
  have Z : Hid (Box x0 w.heap.size 29 #[.int .u8 0, .slice none 0 0, .slice none 0 0, .int .u8 0, .bool false, .bool false, .slice none 0 0, .bool false, .bool false, .slice none 0 0]) := I5 (Box.new _ _ _)
  go_enter Tryz.func86, Tryz.ntmps86
  go_upto_region 1 with fail
  change Code.wp _ _ _ _ x0
  clear_value x0
  have MW := I5 ((MB.refl MA.out.box).step B)
  have up := B.size
  clear B
  go_wp2_with fail
  go_loopw [7, 19] (fun acc i wr => ∃ (k q : Nat) (J : Nat → TV) (l : List Tg), k ≤ xn ∧ Hid (l.length = k) ∧ i = .int .i64 k ∧ Hid (q ≤ 20000) ∧ Hid (Box wr w.heap.size 29 #[.int .u8 0, .slice none 0 0, .slice none 0 0, .int .u8 0, .bool false, .bool false, .slice none 0 0, .bool false, .bool false, .slice none 0 0]) ∧ OwnG wr (w.heap.size + 1) 10 acc k (newsT J k) ∧ Hid (∀ i (hi : i < l.length), RdT (okO (okN ok (w.heap.size + 1)) acc) wr (J i) l[i]) ∧ Hid (∀ x ∈ l, Fit x) ∧ Hid (S = preLs l (listF (meetF n) (xs.drop k) (ys.drop k) q)) ∧ Hid (MB g w wr q)) (fun _ i _ => xn - (intOf i).toNat)
  case atStart => exact ⟨0, p, (fun _ => TV.nil), [], Nat.zero_le _, I5 rfl, rfl, I5 MA.out.le, Z, OwnG.nil _ _ _, I5 (fun i hi => by simp at hi), I5 (fun x hx => by cases hx), I5 (by rw [pM, List.drop_zero, List.drop_zero]; exact HS.out), MW⟩
  case round =>
    clear Z MW up
    obtain ⟨k, q, J, l, fy, hlk, rfl, hq, Z, ho, hme, hfit, gw, MR⟩ := hrel
    have O := I5 ho
    clear ho
    have kQ := Z.out.lt
    have Dr := MR.out.size
    by_cases aJ : k < xn
    case neg =>
      have fS : ¬ (k : Int) < xn := by omega
      have HE : Hid (S = some (some l, q)) := I5 (by rw [gw.out]; exact nH _ _ _ _ (by have := zu.out; omega) _ _)
      clear gw
      obtain ⟨ra, rc, rfl, ah, jb⟩ := O.out.rowT
      clear ah jb
      go_wp2_with (refine ac (cells := #[.int .u8 3, .slice none 0 0, .slice ra k rc, .int .u8 0, .bool false, .bool false, .slice none 0 0, .bool false, .bool false, .slice none 0 0]) rfl 29 _ _ rfl Z.out (by rfl) (by rfl) rfl (by kernel_rfl) (by simp [Value.oneCell']) ?_; intro u9 X9 st9)
      have O9 := O.out.keep (w' := u9) (by have := (st9.below 0 wr (Nat.zero_le _) (Below.refl _ _)).size; omega) (fun g hg => st9.other g (by have := (O.out.lt g hg).1; omega))
      obtain ⟨FL, FK, e2, zp, pe⟩ := O9.rowT
      cases e2
      have R9 : RdT (okN ok w.heap.size) u9 ⟨3, none, 0, 0, ra, k, rc, 0, false, false, none, 0, 0, false, false, none, 0, 0⟩ (.mk 3 [] l noR) := hG _ u9 3 (by omega) ra k rc J l zp (pe.mono (fun b hb => .inr (by omega))) hlk.out.symm (fun i hi => ((hme.out i hi).keep (w' := u9) (fun b hb => st9.other b (by rcases hb.1 with h1 | h1; have := MA.out.old b h1; omega; omega))).mono (fun b hb => eO (by omega) hb.1))
      exact bodyPost_ret (v := .agg #[.int .u8 3, .slice none 0 0, .slice ra k rc, .int .u8 0, .bool false, .bool false, .slice none 0 0, .bool false, .bool false, .slice none 0 0]) (ae rfl _ _ (by rfl) X9 Tryz.underlying29 rfl (by kernel_rfl)) rfl (MetP.ret ⟨3, none, 0, 0, ra, k, rc, 0, false, false, none, 0, 0, false, false, none, 0, 0⟩ (by rw [HR.out, HE.out]; rfl) hq.out R9 (MR.out.stored st9 (by omega) (by omega)))
    case pos =>
      have fS : (k : Int) < xn := by omega
      have cL : (0 : Int) ≤ k := by omega
      have kE : k < xs.length := by have := zu.out; omega
      have ROW := I5 (MR.out.rowT Fj.out Fz.out MA.out.own)
      obtain ⟨b0, o0, AM, a8⟩ := ROW.out.range aJ
      have RE := I5 (MR.out.rdT (Fw.out k kE) MA.out.own)
      obtain ⟨tk, kC⟩ : ∃ t, t = xs[k] := ⟨_, rfl⟩
      have er : Hid (∀ h2 : k < ys.length, S = (match meetF n tk (ys[k]'h2) q with
            | none => none
            | some (t, q) => if t.none? then some (none, q) else preLs (l ++ [t]) (listF (meetF n) (xs.drop (k + 1)) (ys.drop (k + 1)) q))) := I5 (fun h2 => by rw [gw.out, kC]; exact mf _ _ _ k kE h2 l q)
      have mP : Hid (ys.length ≤ k → S = (if tk.none? then some (none, q) else preLs (l ++ [tk]) (listF (meetF n) (xs.drop (k + 1)) (ys.drop (k + 1)) q))) := I5 (fun h2 => by rw [gw.out, kC]; exact nG _ _ _ k kE h2 l q)
      have gQ : Hid (∀ y ∈ ys, tk.count + y.count ≤ n) := I5 (fun y hy => by rw [kC]; exact FE.out _ (List.getElem_mem kE) y hy)
      have vp : Hid (Fit tk) := I5 (by rw [kC]; exact FD.out _ (List.getElem_mem kE))
      rw [← kC] at RE
      clear kC gw ROW
      obtain ⟨v1, ic⟩ : ∃ v1, v1 = KX k := ⟨_, rfl⟩
      rw [← ic] at a8 RE
      clear ic
      obtain ⟨dt, dp, dj, dm, dn, cZ, dk, eo, dA, dy, dC, dz, dB, dF, dD, dH, dE, dG⟩ := v1
      replace a8 : wr.rangeAt b0 (o0 + k * 10) [.int .u8 dt, .slice dp dj dm, .slice dn cZ dk, .int .u8 eo, .bool dA, .bool dy, .slice dC dz dB, .bool dF, .bool dD, .slice dH dE dG] := a8
      have fM := I5 a8
      clear a8
      subst AM
      go_upto_region 7 with (refine ai rfl 29 _ rfl b0 _ rfl _ _ fM.out Tryz.underlying29 rfl (by kernel_rfl) ?_)
      let z1 := (wr.alloc (.cells #[.int .u8 dt, .slice dp dj dm, .slice dn cZ dk, .int .u8 eo, .bool dA, .bool dy, .slice dC dz dB, .bool dF, .bool dD, .slice dH dE dG] 29))
      change Code.wp _ _ _ _ z1
      have hA : Below wr.heap.size wr z1 := (Below.refl _ _).alloc (Nat.le_refl _) _
      have E1 : Hid (Box z1 wr.heap.size 29 #[.int .u8 dt, .slice dp dj dm, .slice dn cZ dk, .int .u8 eo, .bool dA, .bool dy, .slice dC dz dB, .bool dF, .bool dD, .slice dH dE dG]) := I5 (Box.new _ _ _)
      have M1 := I5 (MR.out.step hA)
      replace RE := I5 (RE.out.after hA)
      replace Z := I5 (Z.out.after hA)
      have yN := I5 (fun b e => (O.out.lt b e).2)
      replace O := I5 (O.out.after hA)
      have M2 := I5 (fun i hi => ((hme.out i hi).there.mono (ok' := fun b => okO (okN ok (w.heap.size + 1)) _ b ∧ b ≠ wr.heap.size) (fun b hb => ⟨hb.1, by have := hb.2; omega⟩)).after hA)
      have D7 := hA.size
      clear_value z1
      have FQ := E1.out.lt
      generalize wr.heap.size = yE at *
      clear hA fM hme MR
      by_cases h2 : k < yn
      case pos =>
        have nM : (k : Int) < yn := by omega
        have oQ : k < ys.length := by have := zt.out; omega
        have ROWB := I5 (M1.out.rowT Fi.out Fy.out MA.out.own)
        have RF := I5 (M1.out.rdT (Fv.out k oQ) MA.out.own)
        replace er := I5 (er.out oQ)
        replace gQ := I5 (gQ.out _ (List.getElem_mem oQ))
        have Bi := I5 (FC.out _ (List.getElem_mem oQ))
        obtain ⟨tb, Cg⟩ : ∃ t, t = ys[k] := ⟨_, rfl⟩
        rw [← Cg] at er gQ Bi RF
        clear Cg mP
        obtain ⟨b1, o1, ED, -⟩ := ROWB.out.range h2
        obtain ⟨v2, vq⟩ : ∃ v2, v2 = KY k := ⟨_, rfl⟩
        rw [← vq] at RF
        have Fc := I5 vq
        clear vq
        subst ED
        obtain ⟨yU, qm, qh, qk, ql, qg, qj, fo, yQ, yO, yS, yP, yR, yX, yV, yZ, yW, yY⟩ := v2
        go_upto_region 8 with fail
        have AR := I5 (MA.out.mb M1.out hq.out)
        have aF : Keeps (fun w' => Box w' yE 29 #[.int .u8 dt, .slice dp dj dm, .slice dn cZ dk, .int .u8 eo, .bool dA, .bool dy, .slice dC dz dB, .bool dF, .bool dD, .slice dH dE dG] ∧ RowT w' (some ⟨b1, o1, none⟩) yn yc KY) := fun w1 w2 h b => ⟨h.1.after b, h.2.after b⟩
        refine aX (w := z1) [6, 7] (fun w' => Box w' yE 29 #[.int .u8 dt, .slice dp dj dm, .slice dn cZ dk, .int .u8 eo, .bool dA, .bool dy, .slice dC dz dB, .bool dF, .bool dD, .slice dH dE dG] ∧ RowT w' (some ⟨b1, o1, none⟩) yn yc KY) rfl ⟨E1.out.after (Below.refl _ _).drew, ROWB.out.after (Below.refl _ _).drew⟩ ?_
        refine ag 0 aF rfl (by kernel_rfl) (by kernel_rfl) (by kernel_rfl) (by kernel_rfl) rfl (fun _ _ _ _ h => h) (.pointer (some ⟨g, 0, none⟩)) (fun w' h => by simp [go_sem]) ?_
        simp only [Act.put, I2, I3, I4]
        refine ag 1 aF rfl (by kernel_rfl) (by kernel_rfl) (by kernel_rfl) (by kernel_rfl) rfl (fun _ _ _ _ h => h) (.agg #[.int .u8 dt, .slice dp dj dm, .slice dn cZ dk, .int .u8 eo, .bool dA, .bool dy, .slice dC dz dB, .bool dF, .bool dD, .slice dH dE dG]) (fun w' h => ds rfl h.1 (by rfl) Tryz.underlying29 rfl (by kernel_rfl)) ?_
        simp only [Act.put, I2, I3, I4]
        refine ag 2 aF rfl (by kernel_rfl) (by kernel_rfl) (by kernel_rfl) (by kernel_rfl) rfl (fun _ _ _ _ h => h) (.slice (some ⟨b1, o1, none⟩) yn yc) (fun w' h => by simp [go_sem]) ?_
        simp only [Act.put, I2, I3, I4]
        refine ag 3 aF rfl (by kernel_rfl) (by kernel_rfl) (by kernel_rfl) (by kernel_rfl) rfl (fun _ _ _ _ h => h) (.int .i64 k) (fun w' h => by simp [go_sem]) ?_
        simp only [Act.put, I2, I3, I4]
        refine ag 4 aF rfl (by kernel_rfl) (by kernel_rfl) (by kernel_rfl) (by kernel_rfl) rfl (fun _ _ _ _ h => h) (.pointer (some ⟨b1, o1 + k * 10, none⟩)) (fun w' h => by simp [go_sem]; intro hh; omega) ?_
        simp only [Act.put, I2, I3, I4]
        refine ag 5 aF rfl (by kernel_rfl) (by kernel_rfl) (by kernel_rfl) (by kernel_rfl) rfl (fun _ _ _ _ h => h) (.agg #[.int .u8 yU, .slice qm qh qk, .slice ql qg qj, .int .u8 fo, .bool yQ, .bool yO, .slice yS yP yR, .bool yX, .bool yV, .slice yZ yW yY]) (fun w' h => fY (cs := [.int .u8 yU, .slice qm qh qk, .slice ql qg qj, .int .u8 fo, .bool yQ, .bool yO, .slice yS yP yR, .bool yX, .bool yV, .slice yZ yW yY]) rfl (by have h2 := h.2.rangeA h2; rw [← Fc.out] at h2; exact h2) (by rfl) Tryz.underlying29 rfl (by kernel_rfl)) ?_
        simp only [Act.put, I2, I3, I4]
        refine dr 6 rfl (by kernel_rfl) (by kernel_rfl) rfl ?_
        intro z2 b2 s2
        replace b2 := (Below.refl z1.heap.size z1).drew.trans b2
        replace M1 := I5 (M1.out.step b2)
        replace AR := I5 (AR.out.below b2)
        replace Z := I5 (Z.out.after b2)
        replace O := I5 (O.out.after b2)
        replace M2 := I5 (fun i hi => (M2.out i hi).after b2)
        have D6 := b2.size
        have yw := s2.1.lt
        refine ph 31 #[.pointer (some ⟨g, 0, none⟩), .agg #[.int .u8 dt, .slice dp dj dm, .slice dn cZ dk, .int .u8 eo, .bool dA, .bool dy, .slice dC dz dB, .bool dF, .bool dD, .slice dH dE dG], .agg #[.int .u8 yU, .slice qm qh qk, .slice ql qg qj, .int .u8 fo, .bool yQ, .bool yO, .slice yS yP yR, .bool yX, .bool yV, .slice yZ yW yY]] (by simp [go_sem]) _ (hM.out tk tb q ⟨dt, dp, dj, dm, dn, cZ, dk, eo, dA, dy, dC, dz, dB, dF, dD, dH, dE, dG⟩ ⟨yU, qm, qh, qk, ql, qg, qj, fo, yQ, yO, yS, yP, yR, yX, yV, yZ, yW, yY⟩ z2 g ok (by have := gQ.out; omega) vp.out Bi.out AR.out (RE.out.after b2) (RF.out.after b2)) ?_
        rintro e w1 (⟨hr, rfl, q2, hm⟩ | ⟨t, q2, v, hr, iW, rfl, rt, hm⟩)
        · refine .inr ⟨_, rfl, ?_⟩
          exact ⟨rfl, MetP.long (by rw [HR.out, er.out, hr]; rfl) (M1.out.trans hm)⟩
        obtain ⟨jz, jw, ju, jv, kA, kg, kz, zo, kk, ki, ko, kj, km, kw, ku, ky, kv, kx⟩ := v
        refine .inl ⟨.agg #[.int .u8 jz, .slice jw ju jv, .slice kA kg kz, .int .u8 zo, .bool kk, .bool ki, .slice ko kj km, .bool kw, .bool ku, .slice ky kv kx], rfl, ?_⟩
        simp only [Act.put, I2, I3, I4]
        have vn : Hid (Fit t) := I5 (ef n _ _ _ _ _ vp.out Bi.out hr)
        have HT : Hid (S = if t.none? then some (none, q2) else preLs (l ++ [t]) (listF (meetF n) (xs.drop (k + 1)) (ys.drop (k + 1)) q2)) := I5 (by rw [er.out, hr])
        replace iW := I5 iW
        have Cw : ¬ yE = g := by omega
        have E2 := I5 (hm.far s2.1 Cw)
        replace Z := I5 (hm.far Z.out (by omega))
        replace O := I5 (hm.own O.out (by omega))
        replace M2 := I5 (fun i hi => hm.rdT (M2.out i hi) (by rintro ⟨⟨h1 | h1, -⟩, -⟩; exact MA.out.own h1; omega))
        replace M1 := I5 (M1.out.trans hm)
        have an := hm.size
        have nc := I5 O.out.lt
        have RT := I5 (rt.mono (ok' := fun b => okO (okN ok (w.heap.size + 1)) _ b ∧ b ≠ yE) (fun b' hb' => ⟨⟨eO (by omega) hb', fun e => by have h3 := (nc.out b' e); rcases hb' with h1 | h1; have := MA.out.old b' h1; omega; have := h3.2; have := yN.out b' e; omega⟩, by rcases hb' with h1 | h1; have := MA.out.old b' h1; omega; omega⟩))
        clear hr rt hm RE RF AR er
        refine es 7 rfl (by kernel_rfl) rfl ?_
        intro z3 b3 _
        refine dW (cells := #[.int .u8 jz, .slice jw ju jv, .slice kA kg kz, .int .u8 zo, .bool kk, .bool ki, .slice ko kj km, .bool kw, .bool ku, .slice ky kv kx]) 29 _ _ rfl (E2.out.after b3) (by rfl) (by rfl) rfl (by kernel_rfl) (by simp [Value.oneCell']) ?_
        intro z4 E4 st4
        refine ⟨trivial, ?_⟩
        simp only [Act.put, I2, I3, I4]
        refine cB (by kernel_rfl) ?_
        intro z5 b5 _
        replace Z := I5 (Box.after (w := z4) ((st4.other _ (by omega)).trans (Z.out.after b3)) b5)
        have b34 := st4.below 0 z3 (Nat.zero_le _) (Below.refl _ _)
        have hsz34 := b34.size
        have D5 := b3.size
        replace O := I5 (OwnG.after ((O.out.after b3).keep (w' := z4) (by omega) (fun j hj => st4.other j (by have := yN.out j hj; omega))) b5)
        replace M2 := I5 (fun i hi => RdT.after (((M2.out i hi).after b3).keep (w' := z4) (fun j hj => st4.other j hj.2)) b5)
        replace RT := I5 (RdT.after ((RT.out.after b3).keep (w' := z4) (fun j hj => st4.other j hj.2)) b5)
        replace M2 := I5 (fun i hi => (M2.out i hi).mono (fun _ h => h.1))
        replace RT := I5 (RT.out.mono (fun _ h => h.1))
        have E := I5 (E4.after b5)
        replace M1 := I5 (((M1.out.step b3).stored st4 (by omega) Cw).step b5)
        have DZ := b5.size
        clear b2 s2 b3 st4 E4 b5 b34 aF E1 E2
        obtain ⟨no, gy⟩ : ∃ m, m = t.none? := ⟨_, rfl⟩
        go_wp2_with (refine ab rfl 29 _ rfl E.out (by rfl) Tryz.underlying29 rfl (by kernel_rfl) ?_)
        refine (fX t ⟨jz, jw, ju, jv, kA, kg, kz, zo, kk, ki, ko, kj, km, kw, ku, ky, kv, kx⟩ z5 (RT.out.mono (fun _ _ => trivial))).mono ?_
        rintro e w3 ⟨rfl, bK⟩
        replace E := I5 (E.out.after bK)
        replace Z := I5 (Z.out.after bK)
        replace O := I5 (O.out.after bK)
        replace M2 := I5 (fun i hi => (M2.out i hi).after bK)
        replace M1 := I5 (M1.out.step bK)
        replace RT := I5 (RT.out.after bK)
        have Bz := bK.size
        clear bK
        rw [← gy] at HT ⊢
        clear gy
        cases no with
        | true =>
          go_wp2_with fail
          refine (bj w3).mono ?_
          rintro e w4 ⟨⟨oE, oM, oy, oL, mZ, ox, oK, no, oB, oz, oD, oA, oC, oH, oF, oJ, oG, oI⟩, rfl, rn, hb4⟩
          have RN := I5 rn
          replace Z := I5 (Z.out.after hb4)
          replace M1 := I5 (M1.out.step hb4)
          have At := M1.out.size
          simp only [TV.val]
          clear rn
          go_wp2_with (refine ac (cells := #[.int .u8 oE, .slice oM oy oL, .slice mZ ox oK, .int .u8 no, .bool oB, .bool oz, .slice oD oA oC, .bool oH, .bool oF, .slice oJ oG oI]) rfl 29 _ _ rfl Z.out (by rfl) (by rfl) rfl (by kernel_rfl) (by simp [Value.oneCell']) ?_; intro u9 X9 st9)
          have R9 : RdT (okN ok w.heap.size) u9 ⟨oE, oM, oy, oL, mZ, ox, oK, no, oB, oz, oD, oA, oC, oH, oF, oJ, oG, oI⟩ noT := (RN.out.keep (w' := u9) (fun b hb => st9.other b (by have h1 : w3.heap.size ≤ b := hb; omega))).mono (fun b hb => by have h1 : w3.heap.size ≤ b := hb; exact .inr (by omega))
          exact bodyPost_ret (v := .agg #[.int .u8 oE, .slice oM oy oL, .slice mZ ox oK, .int .u8 no, .bool oB, .bool oz, .slice oD oA oC, .bool oH, .bool oF, .slice oJ oG oI]) (ae rfl _ _ (by rfl) X9 Tryz.underlying29 rfl (by kernel_rfl)) rfl (MetP.ret ⟨oE, oM, oy, oL, mZ, ox, oK, no, oB, oz, oD, oA, oC, oH, oF, oJ, oG, oI⟩ (by rw [HR.out, HT.out]; rfl) iW.out R9 (M1.out.stored st9 (by omega) (by omega)))
        | false =>
          replace HT : Hid (S = preLs (l ++ [t]) (listF (meetF n) (xs.drop (k + 1)) (ys.drop (k + 1)) q2)) := I5 (by rw [HT.out]; rfl)
          have ca : Below w3.heap.size w3 (w3.alloc (.cells #[.int .u8 jz, .slice jw ju jv, .slice kA kg kz, .int .u8 zo, .bool kk, .bool ki, .slice ko kj km, .bool kw, .bool ku, .slice ky kv kx] 29)) := (Below.refl _ _).alloc (Nat.le_refl _) _
          replace Z := I5 (Z.out.after ca)
          replace O := I5 (O.out.after ca)
          replace M2 := I5 (fun i hi => (M2.out i hi).after ca)
          replace M1 := I5 (M1.out.step ca)
          replace RT := I5 (RT.out.after ca)
          have SR := I5 (k7 w3 ⟨jz, jw, ju, jv, kA, kg, kz, zo, kk, ki, ko, kj, km, kw, ku, ky, kv, kx⟩)
          have wz := Z.out.lt
          clear ca
          go_wp2_with first | (refine ab rfl 29 _ rfl E.out (by rfl) Tryz.underlying29 rfl (by kernel_rfl) ?_) | (refine bk rfl _ _ rfl rfl O.out rfl SR.out (by have := Db.out; have := Da.out; have := zu.out; have := zt.out; omega) (by omega) ?_; intro v3 w5 fj hg3 mh; rw [ee] at fj)
          go_roundw
          case rel => exact ⟨k + 1, q2, _, l ++ [t], by omega, I5 (by simp [hlk.out]), by go_num, iW, I5 ((hg3.block _ Z.out.lt (fun e => by have := (O.out.lt _ e.symm).1; omega)).trans Z.out), fj, I5 (dL hlk.out.symm M2.out RT.out hg3 mh), I5 (fun x hx => (List.mem_append.1 hx).elim (hfit.out x) (fun h => by rw [List.mem_singleton.1 h]; exact vn.out)), HT, I5 (M1.out.grown hg3 (fun k e => .inl (by have := (O.out.lt k e).1; constructor <;> omega)))⟩
          case measure => simp [intOf]; omega
      case neg =>
        have nM : ¬ (k : Int) < yn := by omega
        have HT := I5 (mP.out (by have := zt.out; omega))
        clear er mP
        have vn := vp
        have E := E1
        clear E1
        replace M2 := I5 (fun i hi => (M2.out i hi).mono (fun _ h => h.1))
        have RT := I5 (RE.out.mono (ok' := (okO (okN ok (w.heap.size + 1)) _)) (fun b' hb' => ⟨.inl hb', fun e => by have h3 := (O.out.lt b' e).1; have := MA.out.old b' hb'; omega⟩))
        clear RE
        obtain ⟨no, gy⟩ : ∃ m, m = tk.none? := ⟨_, rfl⟩
        go_wp2_with (refine ab rfl 29 _ rfl E.out (by rfl) Tryz.underlying29 rfl (by kernel_rfl) ?_)
        refine (fX tk ⟨dt, dp, dj, dm, dn, cZ, dk, eo, dA, dy, dC, dz, dB, dF, dD, dH, dE, dG⟩ z1 (RT.out.mono (fun _ _ => trivial))).mono ?_
        rintro e w3 ⟨rfl, bK⟩
        replace E := I5 (E.out.after bK)
        replace Z := I5 (Z.out.after bK)
        replace O := I5 (O.out.after bK)
        replace M2 := I5 (fun i hi => (M2.out i hi).after bK)
        replace M1 := I5 (M1.out.step bK)
        replace RT := I5 (RT.out.after bK)
        have Bz := bK.size
        clear bK
        rw [← gy] at HT ⊢
        clear gy
        cases no with
        | true =>
          go_wp2_with fail
          refine (bj w3).mono ?_
          rintro e w4 ⟨⟨oE, oM, oy, oL, mZ, ox, oK, no, oB, oz, oD, oA, oC, oH, oF, oJ, oG, oI⟩, rfl, rn, hb4⟩
          have RN := I5 rn
          replace Z := I5 (Z.out.after hb4)
          replace M1 := I5 (M1.out.step hb4)
          have At := M1.out.size
          simp only [TV.val]
          clear rn
          go_wp2_with (refine ac (cells := #[.int .u8 oE, .slice oM oy oL, .slice mZ ox oK, .int .u8 no, .bool oB, .bool oz, .slice oD oA oC, .bool oH, .bool oF, .slice oJ oG oI]) rfl 29 _ _ rfl Z.out (by rfl) (by rfl) rfl (by kernel_rfl) (by simp [Value.oneCell']) ?_; intro u9 X9 st9)
          have R9 : RdT (okN ok w.heap.size) u9 ⟨oE, oM, oy, oL, mZ, ox, oK, no, oB, oz, oD, oA, oC, oH, oF, oJ, oG, oI⟩ noT := (RN.out.keep (w' := u9) (fun b hb => st9.other b (by have h1 : w3.heap.size ≤ b := hb; omega))).mono (fun b hb => by have h1 : w3.heap.size ≤ b := hb; exact .inr (by omega))
          exact bodyPost_ret (v := .agg #[.int .u8 oE, .slice oM oy oL, .slice mZ ox oK, .int .u8 no, .bool oB, .bool oz, .slice oD oA oC, .bool oH, .bool oF, .slice oJ oG oI]) (ae rfl _ _ (by rfl) X9 Tryz.underlying29 rfl (by kernel_rfl)) rfl (MetP.ret ⟨oE, oM, oy, oL, mZ, ox, oK, no, oB, oz, oD, oA, oC, oH, oF, oJ, oG, oI⟩ (by rw [HR.out, HT.out]; rfl) hq.out R9 (M1.out.stored st9 (by omega) (by omega)))
        | false =>
          replace HT : Hid (S = preLs (l ++ [tk]) (listF (meetF n) (xs.drop (k + 1)) (ys.drop (k + 1)) q)) := I5 (by rw [HT.out]; rfl)
          have ca : Below w3.heap.size w3 (w3.alloc (.cells #[.int .u8 dt, .slice dp dj dm, .slice dn cZ dk, .int .u8 eo, .bool dA, .bool dy, .slice dC dz dB, .bool dF, .bool dD, .slice dH dE dG] 29)) := (Below.refl _ _).alloc (Nat.le_refl _) _
          replace Z := I5 (Z.out.after ca)
          replace O := I5 (O.out.after ca)
          replace M2 := I5 (fun i hi => (M2.out i hi).after ca)
          replace M1 := I5 (M1.out.step ca)
          replace RT := I5 (RT.out.after ca)
          have SR := I5 (k7 w3 ⟨dt, dp, dj, dm, dn, cZ, dk, eo, dA, dy, dC, dz, dB, dF, dD, dH, dE, dG⟩)
          have wz := Z.out.lt
          clear ca
          go_wp2_with first | (refine ab rfl 29 _ rfl E.out (by rfl) Tryz.underlying29 rfl (by kernel_rfl) ?_) | (refine bk rfl _ _ rfl rfl O.out rfl SR.out (by have := Db.out; have := Da.out; have := zu.out; have := zt.out; omega) (by omega) ?_; intro v3 w5 fj hg3 mh; rw [ee] at fj)
          go_roundw
          case rel => exact ⟨k + 1, q, _, l ++ [tk], by omega, I5 (by simp [hlk.out]), by go_num, hq, I5 ((hg3.block _ Z.out.lt (fun e => by have := (O.out.lt _ e.symm).1; omega)).trans Z.out), fj, I5 (dL hlk.out.symm M2.out RT.out hg3 mh), I5 (fun x hx => (List.mem_append.1 hx).elim (hfit.out x) (fun h => by rw [List.mem_singleton.1 h]; exact vn.out)), HT, I5 (M1.out.grown hg3 (fun k e => .inl (by have := (O.out.lt k e).1; constructor <;> omega)))⟩
          case measure => simp [intOf]; omega
theorem yh (n : Nat) (ii : MeetOk n) : ListOk n := fun xs ys p xa xn xc KX ya yn yc KY w g ok h1 h2 h3 h4 h5 h6 h7 h8 h9 h10 h11 h12 h13 h14 =>
 if aJ : xs.length < ys.length then yj n ii xs ys p xa xn xc KX ya yn yc KY w g ok h1 h2 h3 h4 h5 h6 h7 h8 h9 h10 h11 h12 h13 h14 aJ else yk n ii xs ys p xa xn xc KX ya yn yc KY w g ok h1 h2 h3 h4 h5 h6 h7 h8 h9 h10 h11 h12 h13 h14 aJ
theorem oN : ∀ n, MeetOk n
 | 0 => MeetOk.zero
 | n + 1 => yd n (ze n (oN n) (yh n (oN n)))
end Go.Proofs.YtmmkaclmgnpplaaGreatDoor

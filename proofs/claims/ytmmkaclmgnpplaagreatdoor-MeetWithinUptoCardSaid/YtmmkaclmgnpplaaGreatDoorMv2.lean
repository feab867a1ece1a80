import Derived.Test.YtmmkaclmgnpplaaGreatDoorMv1
import Derived.Deep.CutBlock
set_option maxRecDepth 100000
set_option maxHeartbeats 64000000
set_option linter.unusedSimpArgs false
set_option linter.unusedVariables false
namespace Go.Proofs.YtmmkaclmgnpplaaGreatDoor
open Go.RowKit
theorem ph {P : Program} {o : Oper} {a : Act} {w : World} {K : Act → World → Prop} {Q : Exit → Act → World → Prop} (f : FuncId) (args : Array Value) (hr : (execOp a.eval o).run P w = .ok (.enter f args) w) (R : Ending → World → Prop) (hc : Calls P f args w R)
  (h : ∀ e w', R e w' → (∃ v, e = .returned v ∧ K (a.put o.dst v) w') ∨ (∃ c, e = .panicked c ∧ Q (.panic c) a w')) : o.wp P a w K Q := by
 unfold Oper.wp
 rw [hr]
 refine hc.mono fun e w' he => ?_
 rcases h e w' he with ⟨v, rfl, hv⟩ | ⟨c, rfl, hv⟩
 ·exact hv
 ·exact hv
theorem wm (n : Nat) (xs ys : List Tg) (p : Nat) (h : xs.length < ys.length) (S : Option (Option (List Tg) × Nat)) (hS : S = listF (meetF n) ys xs p) : lists n xs ys p = listO S := by
 unfold lists
 rw [if_pos h, hS]
 rfl
theorem wn (n : Nat) (xs ys : List Tg) (p : Nat) (h : ¬ xs.length < ys.length) (S : Option (Option (List Tg) × Nat)) (hS : S = listF (meetF n) xs ys p) : lists n xs ys p = listO S := by
 unfold lists
 rw [if_neg h, hS]
 rfl
structure LArg (n : Nat) (ok : Nat → Prop) (w : World) (xs ys : List Tg) (xa : Option Addr) (xn xc : Nat) (KX : Nat → TV) (ya : Option Addr) (yn yc : Nat) (KY : Nat → TV) : Prop where
 nx : xn = xs.length
 ny : yn = ys.length
 cn : ∀ x ∈ xs, ∀ y ∈ ys, x.count + y.count ≤ n
 fx : ∀ x ∈ xs, Fit x
 fy : ∀ y ∈ ys, Fit y
 x7 : xs.length ≤ 700
 y7 : ys.length ≤ 700
 rx : RowT w xa xn xc KX
 ix : InB ok xa xn
 kx : ∀ i (hi : i < xs.length), RdT ok w (KX i) xs[i]
 ry : RowT w ya yn yc KY
 iy : InB ok ya yn
 ky : ∀ i (hi : i < ys.length), RdT ok w (KY i) ys[i]
theorem LArg.swap {n : Nat} {ok : Nat → Prop} {w : World} {xs ys : List Tg} {xa ya : Option Addr} {xn xc yn yc : Nat} {KX KY : Nat → TV} (h : LArg n ok w xs ys xa xn xc KX ya yn yc KY) : LArg n ok w ys xs ya yn yc KY xa xn xc KX :=
 ⟨h.ny, h.nx, fun y hy x hx => by have := h.cn x hx y hy; omega, h.fy, h.fx, h.y7, h.x7, h.ry, h.iy, h.ky, h.rx, h.ix, h.kx⟩
theorem yh (n : Nat) (ii : MeetOk n) : ListOk n := by
  intro xs ys p xa xn xc KX ya yn yc KY w g ok zE BX CF Cy Cx Cd BZ hm yJ Ct Cr yI Cs Cq
  have MA := I5 hm
  have hM := I5 ii
  have AL := hm.box.lt
  have LA := I5 (LArg.mk (n := n) zE BX CF Cy Cx Cd BZ yJ Ct Cr yI Cs Cq)
  obtain ⟨R, hR⟩ : ∃ R, R = lists n xs ys p := ⟨_, rfl⟩
  rw [← hR]
  have Dc := I5 hR
  have F9 := I5 zE
  have KT := I5 BX
  have AE := Nat.le_trans yJ.1 yJ.2.1
  have AD := Nat.le_trans yI.1 yI.2.1
  unfold maxLen at AE AD
  clear hR hm ii CF Cy Cx Cd BZ zE BX yJ yI Ct Cs Cr Cq
  let x0 := (w.alloc (.cells #[.int .u8 0, .slice none 0 0, .slice none 0 0, .int .u8 0, .bool false, .bool false, .slice none 0 0, .bool false, .bool false, .slice none 0 0] 29))
  have B : Below w.heap.size w x0 := (Below.refl _ _).alloc (Nat.le_refl _) _
  have Z : Hid (Box x0 w.heap.size 29 #[.int .u8 0, .slice none 0 0, .slice none 0 0, .int .u8 0, .bool false, .bool false, .slice none 0 0, .bool false, .bool false, .slice none 0 0]) := I5 (Box.new _ _ _)
  go_enter Tryz.func86, Tryz.ntmps86
  go_upto_region 1 with fail
  change Code.wp _ _ _ _ x0
  clear_value x0
  have MW := I5 ((MB.refl MA.out.box).step B)
  clear B
  go_upto_if 14 with fail
  go_cut [1, 2] from 10 to 16 (fun s1 s2 wx => ∃ (us vs : List Tg) (ua : Option Addr) (un uc : Nat) (KU : Nat → TV) (va : Option Addr) (vn vc : Nat) (KV : Nat → TV), s1 = .slice ua un uc ∧ s2 = .slice va vn vc ∧ Hid (R = listO (listF (meetF n) us vs p)) ∧ Hid (LArg n ok w us vs ua un uc KU va vn vc KV) ∧ wx = x0)
  case first =>
    by_cases aJ : xs.length < ys.length
    case pos =>
      have tl : (xn : Int) < yn := by have := F9.out; have := KT.out; omega
      have HX := I5 (Dc.out.trans (wm n xs ys p aJ _ rfl))
      clear aJ
      go_wp2_with fail
      go_meet
      exact ⟨ys, xs, ya, yn, yc, KY, xa, xn, xc, KX, rfl, rfl, HX, I5 LA.out.swap, rfl⟩
    case neg =>
      have tl : ¬ (xn : Int) < yn := by have := F9.out; have := KT.out; omega
      have HX := I5 (Dc.out.trans (wn n xs ys p aJ _ rfl))
      clear aJ
      go_wp2_with fail
      go_meet
      exact ⟨xs, ys, xa, xn, xc, KX, ya, yn, yc, KY, rfl, rfl, HX, LA, rfl⟩
  case rest =>
    clear LA Dc F9 KT AE AD
    clear xs ys xa xn xc KX ya yn yc KY
    obtain ⟨xs, ys, xa, xn, xc, KX, ya, yn, yc, KY, rfl, rfl, HR, LA, rfl⟩ := hcut
    have FE := I5 LA.out.cn
    have FD := I5 LA.out.fx
    have FC := I5 LA.out.fy
    have Db := I5 LA.out.x7
    have Da := I5 LA.out.y7
    have zu := I5 LA.out.nx
    have zt := I5 LA.out.ny
    have Fj := I5 LA.out.rx
    have Fi := I5 LA.out.ry
    have Fz := I5 LA.out.ix
    have Fy := I5 LA.out.iy
    have Fw := I5 LA.out.kx
    have Fv := I5 LA.out.ky
    have AE := Nat.le_trans LA.out.rx.1 LA.out.rx.2.1
    have AD := Nat.le_trans LA.out.ry.1 LA.out.ry.2.1
    unfold maxLen at AE AD
    obtain ⟨S, hS⟩ : ∃ S, S = listF (meetF n) xs ys p := ⟨_, rfl⟩
    rw [← hS] at HR
    have HS := I5 hS
    have up := MW.out.size
    clear hS LA
    go_wp2_with fail
    go_loopw [7, 19] (fun acc i wr => ∃ (k q : Nat) (J : Nat → TV) (l : List Tg), k ≤ xn ∧ Hid (l.length = k) ∧ i = .int .i64 k ∧ Hid (q ≤ 20000) ∧ Hid (Box wr w.heap.size 29 #[.int .u8 0, .slice none 0 0, .slice none 0 0, .int .u8 0, .bool false, .bool false, .slice none 0 0, .bool false, .bool false, .slice none 0 0]) ∧ OwnG wr (w.heap.size + 1) 10 acc k (newsT J k) ∧ Hid (∀ i (hi : i < l.length), RdT (okO (okN ok (w.heap.size + 1)) acc) wr (J i) l[i]) ∧ Hid (∀ x ∈ l, Fit x) ∧ Hid (S = preLs l (listF (meetF n) (xs.drop k) (ys.drop k) q)) ∧ Hid (MB g w wr q)) (fun _ i _ => xn - (intOf i).toNat)
    case atStart => exact ⟨0, p, (fun _ => TV.nil), [], Nat.zero_le _, I5 rfl, rfl, I5 MA.out.le, Z, OwnG.nil _ _ _, I5 (fun i hi => by simp at hi), I5 (fun x hx => by cases hx), I5 (by rw [pM, List.drop_zero, List.drop_zero]; exact HS.out), MW⟩
    case round =>
      clear Z MW up
      obtain ⟨k, q, J, l, fy, Kw, rfl, hq, Z, ho, KW, Kx, gw, MR⟩ := hrel
      have O := I5 ho
      clear ho
      have kQ := Z.out.lt
      have Dr := MR.out.size
      by_cases aJ : k < xn
      case neg =>
        have fS : ¬ (k : Int) < xn := by omega
        have HE : Hid (S = some (some l, q)) := I5 (by rw [gw.out]; exact nH _ _ _ _ (by have := zu.out; omega) _ _)
        clear gw
        obtain ⟨ra, rc, rfl, ah, jb⟩ := O.out.rowT
        clear ah jb
        go_wp2_with (refine ac (cells := #[.int .u8 3, .slice none 0 0, .slice ra k rc, .int .u8 0, .bool false, .bool false, .slice none 0 0, .bool false, .bool false, .slice none 0 0]) rfl 29 _ _ rfl Z.out (by rfl) (by rfl) rfl (by kernel_rfl) (by simp [Value.oneCell']) ?_; intro u9 X9 st9)
        have O9 := O.out.keep (w' := u9) (by have := (st9.below 0 wr (Nat.zero_le _) (Below.refl _ _)).size; omega) (fun g hg => st9.other g (by have := (O.out.lt g hg).1; omega))
        obtain ⟨FL, FK, e2, zp, pe⟩ := O9.rowT
        cases e2
        have R9 : RdT (okN ok w.heap.size) u9 ⟨3, none, 0, 0, ra, k, rc, 0, false, false, none, 0, 0, false, false, none, 0, 0⟩ (.mk 3 [] l noR) := hG _ u9 3 (by omega) ra k rc J l zp (pe.mono (fun b hb => .inr (by omega))) Kw.out.symm (fun i hi => ((KW.out i hi).keep (w' := u9) (fun b hb => st9.other b (by rcases hb.1 with h1 | h1; have := MA.out.old b h1; omega; omega))).mono (fun b hb => eO (by omega) hb.1))
        exact bodyPost_ret (v := .agg #[.int .u8 3, .slice none 0 0, .slice ra k rc, .int .u8 0, .bool false, .bool false, .slice none 0 0, .bool false, .bool false, .slice none 0 0]) (ae rfl _ _ (by rfl) X9 Tryz.underlying29 rfl (by kernel_rfl)) rfl (MetP.ret ⟨3, none, 0, 0, ra, k, rc, 0, false, false, none, 0, 0, false, false, none, 0, 0⟩ (by rw [HR.out, HE.out]; rfl) hq.out R9 (MR.out.stored st9 (by omega) (by omega)))
      case pos =>
        have fS : (k : Int) < xn := by omega
        have cL : (0 : Int) ≤ k := by omega
        have kE : k < xs.length := by have := zu.out; omega
        have ROW := I5 (MR.out.rowT Fj.out Fz.out MA.out.own)
        obtain ⟨b0, o0, AM, a8⟩ := ROW.out.range aJ
        have RE := I5 (MR.out.rdT (Fw.out k kE) MA.out.own)
        obtain ⟨tk, kC⟩ : ∃ t, t = xs[k] := ⟨_, rfl⟩
        have er : Hid (∀ h2 : k < ys.length, S = (match meetF n tk (ys[k]'h2) q with
              | none => none
              | some (t, q) => if t.none? then some (none, q) else preLs (l ++ [t]) (listF (meetF n) (xs.drop (k + 1)) (ys.drop (k + 1)) q))) := I5 (fun h2 => by rw [gw.out, kC]; exact mf _ _ _ k kE h2 l q)
        have mP : Hid (ys.length ≤ k → S = (if tk.none? then some (none, q) else preLs (l ++ [tk]) (listF (meetF n) (xs.drop (k + 1)) (ys.drop (k + 1)) q))) := I5 (fun h2 => by rw [gw.out, kC]; exact nG _ _ _ k kE h2 l q)
        have gQ : Hid (∀ y ∈ ys, tk.count + y.count ≤ n) := I5 (fun y hy => by rw [kC]; exact FE.out _ (List.getElem_mem kE) y hy)
        have vp : Hid (Fit tk) := I5 (by rw [kC]; exact FD.out _ (List.getElem_mem kE))
        rw [← kC] at RE
        clear kC gw ROW
        obtain ⟨v1, ic⟩ : ∃ v1, v1 = KX k := ⟨_, rfl⟩
        rw [← ic] at a8 RE
        clear ic
        obtain ⟨dt, dp, dj, dm, dn, cZ, dk, eo, dA, dy, dC, dz, dB, dF, dD, dH, dE, dG⟩ := v1
        replace a8 : wr.rangeAt b0 (o0 + k * 10) [.int .u8 dt, .slice dp dj dm, .slice dn cZ dk, .int .u8 eo, .bool dA, .bool dy, .slice dC dz dB, .bool dF, .bool dD, .slice dH dE dG] := a8
        have fM := I5 a8
        clear a8
        subst AM
        go_upto_region 7 with (refine ai rfl 29 _ rfl b0 _ rfl _ _ fM.out Tryz.underlying29 rfl (by kernel_rfl) ?_)
        let z1 := (wr.alloc (.cells #[.int .u8 dt, .slice dp dj dm, .slice dn cZ dk, .int .u8 eo, .bool dA, .bool dy, .slice dC dz dB, .bool dF, .bool dD, .slice dH dE dG] 29))
        change Code.wp _ _ _ _ z1
        have hA : Below wr.heap.size wr z1 := (Below.refl _ _).alloc (Nat.le_refl _) _
        have E1 : Hid (Box z1 wr.heap.size 29 #[.int .u8 dt, .slice dp dj dm, .slice dn cZ dk, .int .u8 eo, .bool dA, .bool dy, .slice dC dz dB, .bool dF, .bool dD, .slice dH dE dG]) := I5 (Box.new _ _ _)
        have M1 := I5 (MR.out.step hA)
        replace RE := I5 (RE.out.after hA)
        replace Z := I5 (Z.out.after hA)
        have yN := I5 (fun b e => (O.out.lt b e).2)
        replace O := I5 (O.out.after hA)
        have M2 := I5 (fun i hi => ((KW.out i hi).there.mono (ok' := fun b => okO (okN ok (w.heap.size + 1)) _ b ∧ b ≠ wr.heap.size) (fun b hb => ⟨hb.1, by have := hb.2; omega⟩)).after hA)
        have D7 := hA.size
        clear_value z1
        have FQ := E1.out.lt
        generalize wr.heap.size = yE at *
        clear hA fM KW MR
        by_cases h2 : k < yn
        case pos =>
          have nM : (k : Int) < yn := by omega
          have oQ : k < ys.length := by have := zt.out; omega
          have ROWB := I5 (M1.out.rowT Fi.out Fy.out MA.out.own)
          have RF := I5 (M1.out.rdT (Fv.out k oQ) MA.out.own)
          replace er := I5 (er.out oQ)
          replace gQ := I5 (gQ.out _ (List.getElem_mem oQ))
          have Bi := I5 (FC.out _ (List.getElem_mem oQ))
          obtain ⟨tb, Cg⟩ : ∃ t, t = ys[k] := ⟨_, rfl⟩
          rw [← Cg] at er gQ Bi RF
          clear Cg mP
          obtain ⟨b1, o1, ED, -⟩ := ROWB.out.range h2
          obtain ⟨v2, vq⟩ : ∃ v2, v2 = KY k := ⟨_, rfl⟩
          rw [← vq] at RF
          have Fc := I5 vq
          clear vq
          subst ED
          obtain ⟨yU, qm, qh, qk, ql, qg, qj, fo, yQ, yO, yS, yP, yR, yX, yV, yZ, yW, yY⟩ := v2
          go_upto_region 8 with fail
          have AR := I5 (MA.out.mb M1.out hq.out)
          have aF : Keeps (fun w' => Box w' yE 29 #[.int .u8 dt, .slice dp dj dm, .slice dn cZ dk, .int .u8 eo, .bool dA, .bool dy, .slice dC dz dB, .bool dF, .bool dD, .slice dH dE dG] ∧ RowT w' (some ⟨b1, o1, none⟩) yn yc KY) := fun w1 w2 h b => ⟨h.1.after b, h.2.after b⟩
          refine aX (w := z1) [6, 7] (fun w' => Box w' yE 29 #[.int .u8 dt, .slice dp dj dm, .slice dn cZ dk, .int .u8 eo, .bool dA, .bool dy, .slice dC dz dB, .bool dF, .bool dD, .slice dH dE dG] ∧ RowT w' (some ⟨b1, o1, none⟩) yn yc KY) rfl ⟨E1.out.after (Below.refl _ _).drew, ROWB.out.after (Below.refl _ _).drew⟩ ?_
          refine ag 0 aF rfl (by kernel_rfl) (by kernel_rfl) (by kernel_rfl) (by kernel_rfl) rfl (fun _ _ _ _ h => h) (.pointer (some ⟨g, 0, none⟩)) (fun w' h => by simp [go_sem]) ?_
          simp only [Act.put, I2, I3, I4]
          refine ag 1 aF rfl (by kernel_rfl) (by kernel_rfl) (by kernel_rfl) (by kernel_rfl) rfl (fun _ _ _ _ h => h) (.agg #[.int .u8 dt, .slice dp dj dm, .slice dn cZ dk, .int .u8 eo, .bool dA, .bool dy, .slice dC dz dB, .bool dF, .bool dD, .slice dH dE dG]) (fun w' h => ds rfl h.1 (by rfl) Tryz.underlying29 rfl (by kernel_rfl)) ?_
          simp only [Act.put, I2, I3, I4]
          refine ag 2 aF rfl (by kernel_rfl) (by kernel_rfl) (by kernel_rfl) (by kernel_rfl) rfl (fun _ _ _ _ h => h) (.slice (some ⟨b1, o1, none⟩) yn yc) (fun w' h => by simp [go_sem]) ?_
          simp only [Act.put, I2, I3, I4]
          refine ag 3 aF rfl (by kernel_rfl) (by kernel_rfl) (by kernel_rfl) (by kernel_rfl) rfl (fun _ _ _ _ h => h) (.int .i64 k) (fun w' h => by simp [go_sem]) ?_
          simp only [Act.put, I2, I3, I4]
          refine ag 4 aF rfl (by kernel_rfl) (by kernel_rfl) (by kernel_rfl) (by kernel_rfl) rfl (fun _ _ _ _ h => h) (.pointer (some ⟨b1, o1 + k * 10, none⟩)) (fun w' h => by simp [go_sem]; intro hh; omega) ?_
          simp only [Act.put, I2, I3, I4]
          refine ag 5 aF rfl (by kernel_rfl) (by kernel_rfl) (by kernel_rfl) (by kernel_rfl) rfl (fun _ _ _ _ h => h) (.agg #[.int .u8 yU, .slice qm qh qk, .slice ql qg qj, .int .u8 fo, .bool yQ, .bool yO, .slice yS yP yR, .bool yX, .bool yV, .slice yZ yW yY]) (fun w' h => fY (cs := [.int .u8 yU, .slice qm qh qk, .slice ql qg qj, .int .u8 fo, .bool yQ, .bool yO, .slice yS yP yR, .bool yX, .bool yV, .slice yZ yW yY]) rfl (by have h2 := h.2.rangeA h2; rw [← Fc.out] at h2; exact h2) (by rfl) Tryz.underlying29 rfl (by kernel_rfl)) ?_
          simp only [Act.put, I2, I3, I4]
          refine dr 6 rfl (by kernel_rfl) (by kernel_rfl) rfl ?_
          intro z2 b2 s2
          replace b2 := (Below.refl z1.heap.size z1).drew.trans b2
          replace M1 := I5 (M1.out.step b2)
          replace AR := I5 (AR.out.below b2)
          replace Z := I5 (Z.out.after b2)
          replace O := I5 (O.out.after b2)
          replace M2 := I5 (fun i hi => (M2.out i hi).after b2)
          have D6 := b2.size
          have yw := s2.1.lt
          refine ph 31 #[.pointer (some ⟨g, 0, none⟩), .agg #[.int .u8 dt, .slice dp dj dm, .slice dn cZ dk, .int .u8 eo, .bool dA, .bool dy, .slice dC dz dB, .bool dF, .bool dD, .slice dH dE dG], .agg #[.int .u8 yU, .slice qm qh qk, .slice ql qg qj, .int .u8 fo, .bool yQ, .bool yO, .slice yS yP yR, .bool yX, .bool yV, .slice yZ yW yY]] (by simp [go_sem]) _ (hM.out tk tb q ⟨dt, dp, dj, dm, dn, cZ, dk, eo, dA, dy, dC, dz, dB, dF, dD, dH, dE, dG⟩ ⟨yU, qm, qh, qk, ql, qg, qj, fo, yQ, yO, yS, yP, yR, yX, yV, yZ, yW, yY⟩ z2 g ok (by have := gQ.out; omega) vp.out Bi.out AR.out (RE.out.after b2) (RF.out.after b2)) ?_
          rintro e w1 (⟨hr, rfl, q2, hm⟩ | ⟨t, q2, v, hr, iW, rfl, rt, hm⟩)
          · refine .inr ⟨_, rfl, ?_⟩
            exact ⟨rfl, MetP.long (by rw [HR.out, er.out, hr]; rfl) (M1.out.trans hm)⟩
          obtain ⟨jz, jw, ju, jv, kA, kg, kz, zo, kk, ki, ko, kj, km, kw, ku, ky, kv, kx⟩ := v
          refine .inl ⟨.agg #[.int .u8 jz, .slice jw ju jv, .slice kA kg kz, .int .u8 zo, .bool kk, .bool ki, .slice ko kj km, .bool kw, .bool ku, .slice ky kv kx], rfl, ?_⟩
          simp only [Act.put, I2, I3, I4]
          have vn : Hid (Fit t) := I5 (ef n _ _ _ _ _ vp.out Bi.out hr)
          have HT : Hid (S = if t.none? then some (none, q2) else preLs (l ++ [t]) (listF (meetF n) (xs.drop (k + 1)) (ys.drop (k + 1)) q2)) := I5 (by rw [er.out, hr])
          replace iW := I5 iW
          have Cw : ¬ yE = g := by omega
          have E2 := I5 (hm.far s2.1 Cw)
          replace Z := I5 (hm.far Z.out (by omega))
          replace O := I5 (hm.own O.out (by omega))
          replace M2 := I5 (fun i hi => hm.rdT (M2.out i hi) (by rintro ⟨⟨h1 | h1, -⟩, -⟩; exact MA.out.own h1; omega))
          replace M1 := I5 (M1.out.trans hm)
          have an := hm.size
          have nc := I5 O.out.lt
          have RT := I5 (rt.mono (ok' := fun b => okO (okN ok (w.heap.size + 1)) _ b ∧ b ≠ yE) (fun b' hb' => ⟨⟨eO (by omega) hb', fun e => by have h3 := (nc.out b' e); rcases hb' with h1 | h1; have := MA.out.old b' h1; omega; have := h3.2; have := yN.out b' e; omega⟩, by rcases hb' with h1 | h1; have := MA.out.old b' h1; omega; omega⟩))
          clear hr rt hm RE RF AR er
          refine es 7 rfl (by kernel_rfl) rfl ?_
          intro z3 b3 _
          refine dW (cells := #[.int .u8 jz, .slice jw ju jv, .slice kA kg kz, .int .u8 zo, .bool kk, .bool ki, .slice ko kj km, .bool kw, .bool ku, .slice ky kv kx]) 29 _ _ rfl (E2.out.after b3) (by rfl) (by rfl) rfl (by kernel_rfl) (by simp [Value.oneCell']) ?_
          intro z4 E4 st4
          refine ⟨trivial, ?_⟩
          simp only [Act.put, I2, I3, I4]
          refine cB (by kernel_rfl) ?_
          intro z5 b5 _
          replace Z := I5 (Box.after (w := z4) ((st4.other _ (by omega)).trans (Z.out.after b3)) b5)
          have b34 := st4.below 0 z3 (Nat.zero_le _) (Below.refl _ _)
          have hsz34 := b34.size
          have D5 := b3.size
          replace O := I5 (OwnG.after ((O.out.after b3).keep (w' := z4) (by omega) (fun j hj => st4.other j (by have := yN.out j hj; omega))) b5)
          replace M2 := I5 (fun i hi => RdT.after (((M2.out i hi).after b3).keep (w' := z4) (fun j hj => st4.other j hj.2)) b5)
          replace RT := I5 (RdT.after ((RT.out.after b3).keep (w' := z4) (fun j hj => st4.other j hj.2)) b5)
          replace M2 := I5 (fun i hi => (M2.out i hi).mono (fun _ h => h.1))
          replace RT := I5 (RT.out.mono (fun _ h => h.1))
          have E := I5 (E4.after b5)
          replace M1 := I5 (((M1.out.step b3).stored st4 (by omega) Cw).step b5)
          have DZ := b5.size
          clear b2 s2 b3 st4 E4 b5 b34 aF E1 E2
          obtain ⟨no, gy⟩ : ∃ m, m = t.none? := ⟨_, rfl⟩
          go_wp2_with (refine ab rfl 29 _ rfl E.out (by rfl) Tryz.underlying29 rfl (by kernel_rfl) ?_)
          refine (fX t ⟨jz, jw, ju, jv, kA, kg, kz, zo, kk, ki, ko, kj, km, kw, ku, ky, kv, kx⟩ z5 (RT.out.mono (fun _ _ => trivial))).mono ?_
          rintro e w3 ⟨rfl, bK⟩
          replace E := I5 (E.out.after bK)
          replace Z := I5 (Z.out.after bK)
          replace O := I5 (O.out.after bK)
          replace M2 := I5 (fun i hi => (M2.out i hi).after bK)
          replace M1 := I5 (M1.out.step bK)
          replace RT := I5 (RT.out.after bK)
          have Bz := bK.size
          clear bK
          rw [← gy] at HT ⊢
          clear gy
          cases no with
          | true =>
            go_wp2_with fail
            refine (bj w3).mono ?_
            rintro e w4 ⟨⟨oE, oM, oy, oL, mZ, ox, oK, no, oB, oz, oD, oA, oC, oH, oF, oJ, oG, oI⟩, rfl, rn, Kf⟩
            have RN := I5 rn
            replace Z := I5 (Z.out.after Kf)
            replace M1 := I5 (M1.out.step Kf)
            have At := M1.out.size
            simp only [TV.val]
            clear rn
            go_wp2_with (refine ac (cells := #[.int .u8 oE, .slice oM oy oL, .slice mZ ox oK, .int .u8 no, .bool oB, .bool oz, .slice oD oA oC, .bool oH, .bool oF, .slice oJ oG oI]) rfl 29 _ _ rfl Z.out (by rfl) (by rfl) rfl (by kernel_rfl) (by simp [Value.oneCell']) ?_; intro u9 X9 st9)
            have R9 : RdT (okN ok w.heap.size) u9 ⟨oE, oM, oy, oL, mZ, ox, oK, no, oB, oz, oD, oA, oC, oH, oF, oJ, oG, oI⟩ noT := (RN.out.keep (w' := u9) (fun b hb => st9.other b (by have h1 : w3.heap.size ≤ b := hb; omega))).mono (fun b hb => by have h1 : w3.heap.size ≤ b := hb; exact .inr (by omega))
            exact bodyPost_ret (v := .agg #[.int .u8 oE, .slice oM oy oL, .slice mZ ox oK, .int .u8 no, .bool oB, .bool oz, .slice oD oA oC, .bool oH, .bool oF, .slice oJ oG oI]) (ae rfl _ _ (by rfl) X9 Tryz.underlying29 rfl (by kernel_rfl)) rfl (MetP.ret ⟨oE, oM, oy, oL, mZ, ox, oK, no, oB, oz, oD, oA, oC, oH, oF, oJ, oG, oI⟩ (by rw [HR.out, HT.out]; rfl) iW.out R9 (M1.out.stored st9 (by omega) (by omega)))
          | false =>
            replace HT : Hid (S = preLs (l ++ [t]) (listF (meetF n) (xs.drop (k + 1)) (ys.drop (k + 1)) q2)) := I5 (by rw [HT.out]; rfl)
            have ca : Below w3.heap.size w3 (w3.alloc (.cells #[.int .u8 jz, .slice jw ju jv, .slice kA kg kz, .int .u8 zo, .bool kk, .bool ki, .slice ko kj km, .bool kw, .bool ku, .slice ky kv kx] 29)) := (Below.refl _ _).alloc (Nat.le_refl _) _
            replace Z := I5 (Z.out.after ca)
            replace O := I5 (O.out.after ca)
            replace M2 := I5 (fun i hi => (M2.out i hi).after ca)
            replace M1 := I5 (M1.out.step ca)
            replace RT := I5 (RT.out.after ca)
            have SR := I5 (k7 w3 ⟨jz, jw, ju, jv, kA, kg, kz, zo, kk, ki, ko, kj, km, kw, ku, ky, kv, kx⟩)
            have wz := Z.out.lt
            clear ca
            go_wp2_with first | (refine ab rfl 29 _ rfl E.out (by rfl) Tryz.underlying29 rfl (by kernel_rfl) ?_) | (refine bk rfl _ _ rfl rfl O.out rfl SR.out (by have := Db.out; have := Da.out; have := zu.out; have := zt.out; omega) (by omega) ?_; intro v3 w5 fj Kr mh; rw [ee] at fj)
            go_roundw
            case rel => exact ⟨k + 1, q2, _, l ++ [t], by omega, I5 (by simp [Kw.out]), by go_num, iW, I5 ((Kr.block _ Z.out.lt (fun e => by have := (O.out.lt _ e.symm).1; omega)).trans Z.out), fj, I5 (dL Kw.out.symm M2.out RT.out Kr mh), I5 (fun x hx => (List.mem_append.1 hx).elim (Kx.out x) (fun h => by rw [List.mem_singleton.1 h]; exact vn.out)), HT, I5 (M1.out.grown Kr (fun k e => .inl (by have := (O.out.lt k e).1; constructor <;> omega)))⟩
            case measure => simp [intOf]; omega
        case neg =>
          have nM : ¬ (k : Int) < yn := by omega
          have HT := I5 (mP.out (by have := zt.out; omega))
          clear er mP
          have vn := vp
          have E := E1
          clear E1
          replace M2 := I5 (fun i hi => (M2.out i hi).mono (fun _ h => h.1))
          have RT := I5 (RE.out.mono (ok' := (okO (okN ok (w.heap.size + 1)) _)) (fun b' hb' => ⟨.inl hb', fun e => by have h3 := (O.out.lt b' e).1; have := MA.out.old b' hb'; omega⟩))
          clear RE
          obtain ⟨no, gy⟩ : ∃ m, m = tk.none? := ⟨_, rfl⟩
          go_wp2_with (refine ab rfl 29 _ rfl E.out (by rfl) Tryz.underlying29 rfl (by kernel_rfl) ?_)
          refine (fX tk ⟨dt, dp, dj, dm, dn, cZ, dk, eo, dA, dy, dC, dz, dB, dF, dD, dH, dE, dG⟩ z1 (RT.out.mono (fun _ _ => trivial))).mono ?_
          rintro e w3 ⟨rfl, bK⟩
          replace E := I5 (E.out.after bK)
          replace Z := I5 (Z.out.after bK)
          replace O := I5 (O.out.after bK)
          replace M2 := I5 (fun i hi => (M2.out i hi).after bK)
          replace M1 := I5 (M1.out.step bK)
          replace RT := I5 (RT.out.after bK)
          have Bz := bK.size
          clear bK
          rw [← gy] at HT ⊢
          clear gy
          cases no with
          | true =>
            go_wp2_with fail
            refine (bj w3).mono ?_
            rintro e w4 ⟨⟨oE, oM, oy, oL, mZ, ox, oK, no, oB, oz, oD, oA, oC, oH, oF, oJ, oG, oI⟩, rfl, rn, Kf⟩
            have RN := I5 rn
            replace Z := I5 (Z.out.after Kf)
            replace M1 := I5 (M1.out.step Kf)
            have At := M1.out.size
            simp only [TV.val]
            clear rn
            go_wp2_with (refine ac (cells := #[.int .u8 oE, .slice oM oy oL, .slice mZ ox oK, .int .u8 no, .bool oB, .bool oz, .slice oD oA oC, .bool oH, .bool oF, .slice oJ oG oI]) rfl 29 _ _ rfl Z.out (by rfl) (by rfl) rfl (by kernel_rfl) (by simp [Value.oneCell']) ?_; intro u9 X9 st9)
            have R9 : RdT (okN ok w.heap.size) u9 ⟨oE, oM, oy, oL, mZ, ox, oK, no, oB, oz, oD, oA, oC, oH, oF, oJ, oG, oI⟩ noT := (RN.out.keep (w' := u9) (fun b hb => st9.other b (by have h1 : w3.heap.size ≤ b := hb; omega))).mono (fun b hb => by have h1 : w3.heap.size ≤ b := hb; exact .inr (by omega))
            exact bodyPost_ret (v := .agg #[.int .u8 oE, .slice oM oy oL, .slice mZ ox oK, .int .u8 no, .bool oB, .bool oz, .slice oD oA oC, .bool oH, .bool oF, .slice oJ oG oI]) (ae rfl _ _ (by rfl) X9 Tryz.underlying29 rfl (by kernel_rfl)) rfl (MetP.ret ⟨oE, oM, oy, oL, mZ, ox, oK, no, oB, oz, oD, oA, oC, oH, oF, oJ, oG, oI⟩ (by rw [HR.out, HT.out]; rfl) hq.out R9 (M1.out.stored st9 (by omega) (by omega)))
          | false =>
            replace HT : Hid (S = preLs (l ++ [tk]) (listF (meetF n) (xs.drop (k + 1)) (ys.drop (k + 1)) q)) := I5 (by rw [HT.out]; rfl)
            have ca : Below w3.heap.size w3 (w3.alloc (.cells #[.int .u8 dt, .slice dp dj dm, .slice dn cZ dk, .int .u8 eo, .bool dA, .bool dy, .slice dC dz dB, .bool dF, .bool dD, .slice dH dE dG] 29)) := (Below.refl _ _).alloc (Nat.le_refl _) _
            replace Z := I5 (Z.out.after ca)
            replace O := I5 (O.out.after ca)
            replace M2 := I5 (fun i hi => (M2.out i hi).after ca)
            replace M1 := I5 (M1.out.step ca)
            replace RT := I5 (RT.out.after ca)
            have SR := I5 (k7 w3 ⟨dt, dp, dj, dm, dn, cZ, dk, eo, dA, dy, dC, dz, dB, dF, dD, dH, dE, dG⟩)
            have wz := Z.out.lt
            clear ca
            go_wp2_with first | (refine ab rfl 29 _ rfl E.out (by rfl) Tryz.underlying29 rfl (by kernel_rfl) ?_) | (refine bk rfl _ _ rfl rfl O.out rfl SR.out (by have := Db.out; have := Da.out; have := zu.out; have := zt.out; omega) (by omega) ?_; intro v3 w5 fj Kr mh; rw [ee] at fj)
            go_roundw
            case rel => exact ⟨k + 1, q, _, l ++ [tk], by omega, I5 (by simp [Kw.out]), by go_num, hq, I5 ((Kr.block _ Z.out.lt (fun e => by have := (O.out.lt _ e.symm).1; omega)).trans Z.out), fj, I5 (dL Kw.out.symm M2.out RT.out Kr mh), I5 (fun x hx => (List.mem_append.1 hx).elim (Kx.out x) (fun h => by rw [List.mem_singleton.1 h]; exact vn.out)), HT, I5 (M1.out.grown Kr (fun k e => .inl (by have := (O.out.lt k e).1; constructor <;> omega)))⟩
            case measure => simp [intOf]; omega
theorem oN : ∀ n, MeetOk n
 | 0 => MeetOk.zero
 | n + 1 => yd n (ze n (oN n) (yh n (oN n)))
end Go.Proofs.YtmmkaclmgnpplaaGreatDoor

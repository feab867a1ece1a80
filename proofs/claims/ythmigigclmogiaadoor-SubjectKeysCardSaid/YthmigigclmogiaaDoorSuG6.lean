/- A principal of a value: the program's key.Get. The document's principals: plain, Get, Same. -/
import Derived.Test.YthmigigclmogiaaDoorSuG5
namespace Go.Proofs.YthmigigclmogiaaDoor
open Go.RowKit
set_option linter.unusedSimpArgs false
set_option linter.unusedVariables false

theorem infoKey : (Tryd.prog.info? 24).map (fun i => (i.zero, i.size, i.bytes)) = some (some (.agg #[.bool false, .slice none 0 0]), 2, 32) := by kernel_rfl
/-- a principal put behind others -/
theorem wpList_append_E {ops : Array Oper} {rest : List Oper} {o : Oper} {a : Act} {w : World} {B n : Nat} {v : Value} {xs : List Value} {Q : Exit → Act → World → Prop} (hgd : o.guard = none) (s x : Operand)
    (ho : o.op = .call { callee := .builtin .append, args := #[s, x], argTypes := #[39, 39] })
    (hs : a.eval s = v) (h : OwnG w B 2 v n xs) {m : Nat} {news : List Value} {xv : Value} (hx : a.eval x = xv) (hsrc : Src Tryd.prog 2 39 xv m news w) (hn : n + m ≤ 1000000) (hB : B ≤ w.heap.size)
    (hk : ∀ v' w', OwnG w' B 2 v' (n + m) (xs ++ news) → w.grownBy w' v.ownBlock → (∀ k, v'.ownBlock = some k → v.ownBlock = some k ∨ w.heap.size ≤ k) → wpList Tryd.prog ops Q rest (a.put o.dst v') w') : wpList Tryd.prog ops Q (o :: rest) a w := by
  obtain ⟨i0, hi, hi2⟩ := Option.map_eq_some_iff.1 infoKey
  simp only [Prod.mk.injEq] at hi2
  obtain ⟨hz0, hz1, hz2⟩ := hi2
  exact wpList_plain hgd fun _ hK => wp_append_G s x 39 39 ho 24 i0 (.agg #[.bool false, .slice none 0 0]) 32 Tryd.underlying39 hi hz0 hz1 hz2 rfl (by decide) hs h _ hx m news hsrc (by unfold maxLen; omega) (by omega) hB fun v' w' h1 h2 h3 => hK _ _ (hk v' w' h1 h2 h3)
theorem srcE (w : World) (s : Bool) (p : Option Addr) (m q : Nat) : Src Tryd.prog 2 39 (.slice (some ⟨w.heap.size, 0, none⟩) 1 1) 1 [.bool s, .slice p m q] (w.alloc (.cells #[.bool s, .slice p m q] 24)) := by
  refine Src.ofSlice _ Tryd.underlying39 _ 1 1 _ rfl (fun j u hu => ?_) (fun u hu => ?_)
  · rw [Addr.add_mid]
    refine (Box.new w 24 #[.bool s, .slice p m q]).cell (0 + j) ?_
    rw [Nat.zero_add]
    simpa using hu
  · simp only [List.mem_cons, List.not_mem_nil, or_false] at hu
    rcases hu with rfl | rfl <;> rfl
theorem keyTry_3 (l h : Bool) (hi da : List UInt8) (ks : List Sx) (h3 : ks.length = 3) : keyTry (.mk l h hi da ks) = some (true, (ks[2]'(by omega)).da) := by
  match ks, h3 with
  | [a, b, c], _ => rfl
theorem keyTry_2n (l h : Bool) (hi da : List UInt8) (ks : List Sx) (h2 : ks.length = 2) (hn : (ks[1]'(by omega)).ks.length ≠ 2) : keyTry (.mk l h hi da ks) = none := by
  match ks, h2, hn with
  | [a, .mk _ _ _ _ bk], _, hn =>
    match bk, hn with
    | [], _ => rfl
    | [_], _ => rfl
    | [_, _], hn => exact absurd rfl hn
    | _ :: _ :: _ :: _, _ => rfl
theorem keyTry_2 (l h : Bool) (hi da : List UInt8) (ks : List Sx) (h2 : ks.length = 2) (hn : (ks[1]'(by omega)).ks.length = 2) : keyTry (.mk l h hi da ks) = some (false, ((ks[1]'(by omega)).ks[1]'(by omega)).da) := by
  match ks, h2, hn with
  | [a, .mk _ _ _ _ bk], _, hn =>
    match bk, hn with
    | [_, _], hn => rfl
theorem keyTry_n (l h : Bool) (hi da : List UInt8) (ks : List Sx) (h2 : ks.length ≠ 2) (h3 : ks.length ≠ 3) : keyTry (.mk l h hi da ks) = none := by
  match ks, h2, h3 with
  | [], _, _ => rfl
  | [_], _, _ => rfl
  | [_, _], h, _ => exact absurd rfl h
  | [_, _, _], _, h => exact absurd rfl h
  | _ :: _ :: _ :: _ :: _, _, _ => rfl
/-- cells in the midst of a block that is there -/
def RgA (w : World) (b o : Nat) (cs : List Value) : Prop := w.rangeAt b o cs ∧ b < w.heap.size
theorem RgA.after {w w' : World} {b o : Nat} {cs : List Value} (h : RgA w b o cs) (hb : Below w.heap.size w w') : RgA w' b o cs :=
  ⟨fun j v hv => (World.cell?_of_block (a := ⟨b, o + j, none⟩) (hb.block b h.2)).trans (h.1 j v hv), Nat.lt_of_lt_of_le h.2 hb.size⟩
/-- what getting a principal answers -/
def KeyG (k : Sx) (w : World) (e : Ending) (w' : World) : Prop :=
  (∃ s l, keyGet k = some (s, l) ∧ ∃ a n c, e = .returned (.tuple #[.agg #[.bool s, .slice a n c], .int .i64 0]) ∧ Sl w' a n c l ∧ InB (fun b => w.heap.size ≤ b) a n ∧ Below w.heap.size w w') ∨
  (keyGet k = none ∧ e = .returned (.tuple #[.agg #[.bool false, .slice none 0 0], .int .i64 7]) ∧ Below w.heap.size w w')
theorem keyGet_no {k : Sx} (h : keyTry k = none) : keyGet k = none := by unfold keyGet; rw [h]
theorem keyGet_yes {k : Sx} {s : Bool} {l : List UInt8} (h : keyTry k = some (s, l)) : keyGet k = if keyMay s l.length && k.same (keyS s l) then some (s, l) else none := by unfold keyGet; rw [h]

set_option maxHeartbeats 8000000 in
set_option maxRecDepth 100000 in
theorem keyGet_any (k : Sx) (v : SV) (w : World) (hr : Rd w v k) (mm : Nat) (hw : k.wide mm = false) : Calls Tryd.prog 33 #[v.val] w (KeyG k w) := by
  obtain ⟨kl, kh, khi, kda, ks⟩ := k
  have HW : Hid (∀ k ∈ ks, k.wide (mm + 1) = false) := Lib.hid (wide_no hw).2.2.2.2
  have HRV := Lib.hid hr
  obtain ⟨e1, e2, _, _, hn, hnc, hcm, K, hrow, hk⟩ := hr.parts
  obtain ⟨vl, vh, va1, vn1, vc1, va2, vn2, vc2, va3, vn3, vc3⟩ := v
  have HKG := Lib.hid (show keyGet (.mk kl kh khi kda ks) = keyGet (.mk kl kh khi kda ks) from rfl)
  replace hn : vn3 = ks.length := hn
  replace hnc : vn3 ≤ vc3 := hnc
  replace hcm : vc3 ≤ maxLen := hcm
  unfold maxLen at hcm
  replace hk : ∀ i (hi : i < ks.length), Rd w (K i) ks[i] := hk
  replace hrow : RowAt w va3 vn3 vc3 K := hrow
  have HN := Lib.hid hn
  have HK := Lib.hid hk
  have HROW := Lib.hid hrow
  unfold SV.val
  show Calls _ _ #[.agg #[.bool vl, .bool vh, .slice va1 vn1 vc1, .slice va2 vn2 vc2, .slice va3 vn3 vc3]] _ _
  have B : Below w.heap.size w ((w.alloc (.cells #[.bool vl, .bool vh, .slice va1 vn1 vc1, .slice va2 vn2 vc2, .slice va3 vn3 vc3] 33)).alloc (.cells #[.bool false, .slice none 0 0] 24)) := ((Below.refl _ _).alloc (Nat.le_refl _) _).alloc (by simp) _
  have V : Hid (Box ((w.alloc (.cells #[.bool vl, .bool vh, .slice va1 vn1 vc1, .slice va2 vn2 vc2, .slice va3 vn3 vc3] 33)).alloc (.cells #[.bool false, .slice none 0 0] 24)) w.heap.size 33 #[.bool vl, .bool vh, .slice va1 vn1 vc1, .slice va2 vn2 vc2, .slice va3 vn3 vc3]) := Lib.hid ((Box.new _ _ _).alloc _)
  have X : Hid (Box ((w.alloc (.cells #[.bool vl, .bool vh, .slice va1 vn1 vc1, .slice va2 vn2 vc2, .slice va3 vn3 vc3] 33)).alloc (.cells #[.bool false, .slice none 0 0] 24)) (w.heap.size + 1) 24 #[.bool false, .slice none 0 0]) := Lib.hid (by
    have := Box.new (w.alloc (.cells #[.bool vl, .bool vh, .slice va1 vn1 vc1, .slice va2 vn2 vc2, .slice va3 vn3 vc3] 33)) 24 #[.bool false, .slice none 0 0]
    simpa using this)
  clear hr e1 e2 hn hk hrow hw
  go_enter Tryd.func33, Tryd.ntmps33
  go_upto_region 1 with fail
  change Code.wp _ _ _ _ ((w.alloc (.cells #[.bool vl, .bool vh, .slice va1 vn1 vc1, .slice va2 vn2 vc2, .slice va3 vn3 vc3] 33)).alloc (.cells #[.bool false, .slice none 0 0] 24))
  generalize ((w.alloc (.cells #[.bool vl, .bool vh, .slice va1 vn1 vc1, .slice va2 vn2 vc2, .slice va3 vn3 vc3] 33)).alloc (.cells #[.bool false, .slice none 0 0] 24)) = x0 at *
  have x4 := V.out.cell 4 rfl
  by_cases h3 : vn3 = 3
  case pos =>
    subst h3
    obtain ⟨lst, hlst⟩ : ∃ l, l = (ks[2]'(by have := HN.out; omega)).da := ⟨_, rfl⟩
    have HSD := Lib.hid ((HK.out 2 (by have := HN.out; omega)).parts.2.2.2.1.after B)
    rw [← hlst] at HSD
    have HLE : Hid (lst.length ≤ 5000) := Lib.hid (by rw [hlst]; exact (wide_no (HW.out _ (List.getElem_mem (by have := HN.out; show 2 < ks.length; omega)))).2.2.2.1)
    have HTT : Hid (keyTry (.mk kl kh khi kda ks) = some (true, lst)) := Lib.hid (by rw [hlst]; exact keyTry_3 _ _ _ _ _ HN.out.symm)
    clear hlst
    obtain ⟨b, o, rfl, hld⟩ := (HROW.out.after B).range (i := 2) (by omega)
    have c3 : x0.cell? ⟨b, o + 13, none⟩ = some (.slice (K 2).a2 (K 2).n2 (K 2).c2) := by have := hld 3 _ rfl; rwa [show o + 2 * 5 + 3 = o + 13 by omega] at this
    clear hld
    have HT : Hid (keyTry (.mk kl kh khi kda ks) = some (true, lst)) := Lib.hid (HTT.out)
    go_wp2_with fail
    refine (bclone_any (K 2).a2 (K 2).n2 (K 2).c2 lst x0 HSD.out (by have := HSD.out.1; have := HLE.out; omega)).mono ?_
    rintro e y1 ⟨v1, rfl, ho1, hy1⟩
    obtain ⟨p, m, q, rfl, hsl, hib⟩ := (OwnB.parts ho1)
    replace hib := Lib.hid (hib.imp id fun h b o s e => by have := h b o s e; have := X.out.lt; show w.heap.size + 2 ≤ b; omega)
    have SL := Lib.hid hsl
    clear ho1 hsl HSD
    replace V := Lib.hid (V.out.after hy1)
    replace X := Lib.hid (X.out.after hy1)
    replace B := B.trans (hy1.mono B.size)
    clear hy1
    have SR := Lib.hid (srcE y1 true p m q)
    have Z1 := Lib.hid (Box.new y1 24 #[.bool true, .slice p m q])
    have ba1 : Below y1.heap.size y1 (y1.alloc (.cells #[.bool true, .slice p m q] 24)) := (Below.refl _ _).alloc (Nat.le_refl _) _
    replace V := Lib.hid (V.out.after ba1)
    replace X := Lib.hid (X.out.after ba1)
    replace SL := Lib.hid (SL.out.after ba1)
    replace B := B.trans (ba1.mono B.size)
    clear ba1
    clear Z1
    have hXl := X.out.lt
    have HZ := Lib.hid (OwnG.nil (y1.alloc (.cells #[.bool true, .slice p m q] 24)) (w.heap.size + 2) 2)
    go_wp2_with (refine wpList_append_E (v := .slice none 0 0) rfl _ _ rfl rfl HZ.out rfl SR.out (by omega) (by omega) ?_; intro v2 w2 ho2 hg2 hw2; obtain ⟨fb, fo, fc, rfl, hfc, hfm, hfr⟩ := ho2.form (by omega))
    clear x4 c3
    unfold maxLen at hfm
    have hfb := Lib.hid (ho2.lt fb rfl)
    have V2 := Box.grown V.out hg2 (fun k hk => by simp [Value.ownBlock] at hk)
    have X2 := Box.grown X.out hg2 (fun k hk => by simp [Value.ownBlock] at hk)
    have B2 := B.grown hg2 B.size (fun k hk => by simp [Value.ownBlock] at hk)
    have SL2 := Lib.hid (SL.out.keep (w' := w2) (SL.out.inB.imp id fun h b o s e => hg2.block b (h b o s e) (by simp [Value.ownBlock])))
    replace hfr : RgA w2 fb fo [.bool true, .slice p m q] := ⟨hfr, (hfb.out).2⟩
    clear V X B SL SR HZ ho2 hg2 hw2
    go_loopw [53] (fun i wr => ∃ k : Nat, i = .int .i64 k ∧ k ≤ 1 ∧ Hid (k = 1 → keyGet (.mk kl kh khi kda ks) = none) ∧ Box wr w.heap.size 33 #[.bool vl, .bool vh, .slice va1 vn1 vc1, .slice va2 vn2 vc2, .slice (some ⟨b, o, none⟩) 3 vc3] ∧ Box wr (w.heap.size + 1) 24 #[.bool false, .slice none 0 0] ∧ Sl wr p m q lst ∧ RgA wr fb fo [.bool true, .slice p m q] ∧ Below w.heap.size w wr) (fun i _ => 1 - (intOf i).toNat)
    case atStart => exact ⟨0, rfl, by omega, Lib.hid (fun h => by omega), V2, X2, SL2.out, hfr, B2⟩
    case round =>
      obtain ⟨k, rfl, hk1, hno, V, X, SL, RG, B⟩ := hrel
      replace V := Lib.hid V
      replace X := Lib.hid X
      replace SL := Lib.hid SL
      replace RG := Lib.hid RG
      clear V2 X2 SL2 hfr B2
      by_cases hk : k = 1
      case pos =>
        subst hk
        have HF := Lib.hid (hno.out rfl)
        go_wp2_with (refine wpList_store_box (cells := #[.bool false, .slice none 0 0]) rfl 24 _ _ rfl X.out (by rfl) (by rfl) rfl (by kernel_rfl) (by simp [Value.oneCell']) ?_; intro u9 X9 st9)
        have B9 := st9.below w.heap.size w (by omega) B
        exact bodyPost_ret (v := .tuple #[.agg #[.bool false, .slice none 0 0], .int .i64 7]) (box_result2 (p := 2) (q := 3) rfl _ _ (by rfl) X9 Tryd.underlying24 rfl (by kernel_rfl)) rfl (.inr ⟨HF.out, rfl, B9⟩)
      case neg =>
        obtain rfl : k = 0 := by omega
        clear hno hk hk1
        go_upto_region 9 with first | (refine wpList_load_midW rfl 24 _ rfl fb _ rfl _ _ RG.out.1 Tryd.underlying24 rfl (by kernel_rfl) ?_) | (refine wpList_store_box (cells := #[.bool true, .slice p m q]) rfl 24 _ _ rfl (Box.new _ _ _) (by rfl) (by rfl) rfl (by kernel_rfl) (by simp [Value.oneCell']) ?_; intro u9 X9 st9)
        have bs2 : Below wr.heap.size wr u9 := st9.below wr.heap.size wr (Nat.le_refl _) ((Below.refl _ _).alloc (Nat.le_refl _) _)
        have Y6 := Lib.hid X9
        replace V := Lib.hid (V.out.after bs2)
        replace X := Lib.hid (X.out.after bs2)
        replace SL := Lib.hid (SL.out.after bs2)
        replace RG := Lib.hid (RG.out.after bs2)
        replace B := B.trans (bs2.mono B.size)
        clear bs2 st9 X9
        generalize u9 = x2 at *
        go_wp2_with (refine wpList_load_box rfl 24 _ rfl Y6.out (by rfl) Tryd.underlying24 rfl (by kernel_rfl) ?_)
        refine (keyPut_any true p m q lst x2 SL.out (by have := SL.out.1; have := HLE.out; omega)).mono ?_
        rintro e z1 hP
        obtain ⟨⟨tl, th, ta1, tn1, tc1, ta2, tn2, tc2, ta3, tn3, tc3⟩, er, rfl, rt, hk, bz1⟩ := hP.out
        clear hP
        have HKK := Lib.hid hk
        clear hk
        replace rt := Lib.hid rt
        replace V := Lib.hid (V.out.after bz1)
        replace X := Lib.hid (X.out.after bz1)
        replace SL := Lib.hid (SL.out.after bz1)
        replace RG := Lib.hid (RG.out.after bz1)
        replace Y6 := Lib.hid (Y6.out.after bz1)
        replace B := B.trans (bz1.mono B.size)
        clear bz1
        go_upto_region 10 with (refine wpList_store_box (cells := #[.bool tl, .bool th, .slice ta1 tn1 tc1, .slice ta2 tn2 tc2, .slice ta3 tn3 tc3]) rfl 33 _ _ rfl (Box.new _ _ _) (by rfl) (by rfl) rfl (by kernel_rfl) (by simp [Value.oneCell']) ?_; intro u9 X9 st9)
        have bs3 : Below z1.heap.size z1 u9 := st9.below z1.heap.size z1 (Nat.le_refl _) ((Below.refl _ _).alloc (Nat.le_refl _) _)
        have Y7 := Lib.hid X9
        replace V := Lib.hid (V.out.after bs3)
        replace X := Lib.hid (X.out.after bs3)
        replace SL := Lib.hid (SL.out.after bs3)
        replace RG := Lib.hid (RG.out.after bs3)
        replace Y6 := Lib.hid (Y6.out.after bs3)
        replace rt := Lib.hid (rt.out.after bs3)
        replace B := B.trans (bs3.mono B.size)
        clear bs3 st9 X9
        generalize u9 = x3 at *
        rcases HKK.out with ⟨rfl, hk⟩ | ⟨rfl, hk⟩
        · skip
          replace hk := Lib.hid hk
          clear HKK
          rw [hk.out] at rt
          replace rt : Hid (RdI _ _ _ (keyS true lst)) := rt
          skip
          have HS := Lib.hid (fun w' h1 h2 => same_any (.mk kl kh khi kda ks) (keyS true lst) ⟨vl, vh, va1, vn1, vc1, va2, vn2, vc2, some ⟨b, o, none⟩, 3, vc3⟩ ⟨tl, th, ta1, tn1, tc1, ta2, tn2, tc2, ta3, tn3, tc3⟩ w' h1 h2)
          obtain ⟨r, hr⟩ : ∃ r, r = (Sx.mk kl kh khi kda ks).same (keyS true lst) := ⟨_, rfl⟩
          simp only [← hr] at HS
          have HRR := Lib.hid hr
          clear hr
          go_wp2_with first | (refine wpList_load_box rfl 33 _ rfl V.out (by rfl) Tryd.underlying33 rfl (by kernel_rfl) ?_) | (refine wpList_load_box rfl 33 _ rfl Y7.out (by rfl) Tryd.underlying33 rfl (by kernel_rfl) ?_)
          refine (HS.out x3 (HRV.out.after B) (rt.out.mono (fun _ _ => trivial))).mono ?_
          rintro e x4 ⟨rfl, bx4⟩
          replace V := Lib.hid (V.out.after bx4)
          replace X := Lib.hid (X.out.after bx4)
          replace SL := Lib.hid (SL.out.after bx4)
          replace RG := Lib.hid (RG.out.after bx4)
          replace Y6 := Lib.hid (Y6.out.after bx4)
          replace rt := Lib.hid (rt.out.after bx4)
          replace Y7 := Lib.hid (Y7.out.after bx4)
          replace B := B.trans (bx4.mono B.size)
          clear bx4
          clear HS
          cases r with
          | true =>
            have HF : Hid (keyGet (.mk kl kh khi kda ks) = some (true, lst)) := Lib.hid (by rw [keyGet_yes HT.out, hk.out, ← HRR.out]; rfl)
            go_wp2_with first | (refine wpList_load_box rfl 24 _ rfl Y6.out (by rfl) Tryd.underlying24 rfl (by kernel_rfl) ?_) | (refine wpList_store_box (cells := #[.bool true, .slice p m q]) rfl 24 _ _ rfl X.out (by rfl) (by rfl) rfl (by kernel_rfl) (by simp [Value.oneCell']) ?_; intro u9 X9 st9)
            have B9 := st9.below w.heap.size w (by omega) B
            have S9 := SL.out.keep (w' := u9) (hib.out.imp id fun h b o s e => st9.other b (by have := h b o s e; omega))
            exact bodyPost_ret (v := .tuple #[.agg #[.bool true, .slice p m q], .int .i64 0]) (box_result2 (p := 2) (q := 3) rfl _ _ (by rfl) X9 Tryd.underlying24 rfl (by kernel_rfl)) rfl (.inl ⟨true, lst, HF.out, p, m, q, rfl, S9, hib.out.imp id (fun h b o s e => by have := h b o s e; omega), B9⟩)
          | false =>
            have HF : Hid (keyGet (.mk kl kh khi kda ks) = none) := Lib.hid (by rw [keyGet_yes HT.out, hk.out, ← HRR.out]; rfl)
            clear rt Y6 Y7
            go_wp2_with fail
            go_roundw
            case rel => exact ⟨1, rfl, by omega, Lib.hid (fun _ => HF.out), V.out, X.out, SL.out, RG.out, B⟩
            case measure => simp [intOf]
        · skip
          replace hk := Lib.hid hk
          clear HKK
          have HF : Hid (keyGet (.mk kl kh khi kda ks) = none) := Lib.hid (by rw [keyGet_yes HT.out, hk.out]; rfl)
          clear rt Y6 Y7
          go_wp2_with fail
          go_roundw
          case rel => exact ⟨1, rfl, by omega, Lib.hid (fun _ => HF.out), V.out, X.out, SL.out, RG.out, B⟩
          case measure => simp [intOf]
  case neg =>
    by_cases h2 : vn3 = 2
    case pos =>
      subst h2
      have H1 := Lib.hid (HK.out 1 (by have := HN.out; omega))
      obtain ⟨_, _, _, _, hn1, hnc1, hcm1, K1, hrow1, hk1⟩ := H1.out.parts
      unfold maxLen at hcm1
      have HN1 : Hid ((K 1).n3 = (ks[1]'(by have := HN.out; omega)).ks.length) := Lib.hid hn1
      have HK1 := Lib.hid hk1
      have HROW1 := Lib.hid hrow1
      clear hn1 hk1 hrow1
      obtain ⟨b, o, rfl, hld⟩ := (HROW.out.after B).range (i := 1) (by omega)
      have c3 : x0.cell? ⟨b, o + 9, none⟩ = some (.slice (K 1).a3 (K 1).n3 (K 1).c3) := by have := hld 4 _ rfl; rwa [show o + 1 * 5 + 4 = o + 9 by omega] at this
      clear hld
      by_cases h4 : (K 1).n3 = 2
      case neg =>
        have q2 : (((K 1).n3 : Int) == 2) = false := by simp; omega
        have HH := Lib.hid h4
        clear h4
        have HF : Hid (keyGet (.mk kl kh khi kda ks) = none) := Lib.hid (keyGet_no (keyTry_2n _ _ _ _ _ HN.out.symm (by have := HN1.out; have := HH.out; omega)))
        go_wp2_with fail
        go_loopw [53] (fun i wr => i = .int .i64 0 ∧ wr = x0) (fun _ _ => 0)
        case atStart => exact ⟨rfl, rfl⟩
        case round =>
          obtain ⟨rfl, rfl⟩ := hrel
          go_wp2_with (refine wpList_store_box (cells := #[.bool false, .slice none 0 0]) rfl 24 _ _ rfl X.out (by rfl) (by rfl) rfl (by kernel_rfl) (by simp [Value.oneCell']) ?_; intro u9 X9 st9)
          have B9 := st9.below w.heap.size w (by omega) B
          exact bodyPost_ret (v := .tuple #[.agg #[.bool false, .slice none 0 0], .int .i64 7]) (box_result2 (p := 2) (q := 3) rfl _ _ (by rfl) X9 Tryd.underlying24 rfl (by kernel_rfl)) rfl (.inr ⟨HF.out, rfl, B9⟩)
      case pos =>
        obtain ⟨lst, hlst⟩ : ∃ l, l = ((ks[1]'(by have := HN.out; omega)).ks[1]'(by have := HN1.out; omega)).da := ⟨_, rfl⟩
        have HSD := Lib.hid ((HK1.out 1 (by have := HN1.out; omega)).parts.2.2.2.1.after B)
        rw [← hlst] at HSD
        have HLE : Hid (lst.length ≤ 5000) := Lib.hid (by rw [hlst]; exact (wide_no ((wide_no (HW.out _ (List.getElem_mem (by have := HN.out; show 1 < ks.length; omega)))).2.2.2.2 _ (List.getElem_mem (by have := HN1.out; omega)))).2.2.2.1)
        have HTT : Hid (keyTry (.mk kl kh khi kda ks) = some (false, lst)) := Lib.hid (by rw [hlst]; exact keyTry_2 _ _ _ _ _ HN.out.symm (by have := HN1.out; omega))
        clear hlst
        obtain ⟨b1, o1, e1, hld⟩ := (HROW1.out.after B).range (i := 1) (by omega)
        rw [e1, h4] at c3
        have c4 : x0.cell? ⟨b1, o1 + 8, none⟩ = some (.slice (K1 1).a2 (K1 1).n2 (K1 1).c2) := by have := hld 3 _ rfl; rwa [show o1 + 1 * 5 + 3 = o1 + 8 by omega] at this
        rw [h4] at hnc1
        clear hld e1 h4
        have HT : Hid (keyTry (.mk kl kh khi kda ks) = some (false, lst)) := Lib.hid (HTT.out)
        go_wp2_with fail
        refine (bclone_any (K1 1).a2 (K1 1).n2 (K1 1).c2 lst x0 HSD.out (by have := HSD.out.1; have := HLE.out; omega)).mono ?_
        rintro e y1 ⟨v1, rfl, ho1, hy1⟩
        obtain ⟨p, m, q, rfl, hsl, hib⟩ := (OwnB.parts ho1)
        replace hib := Lib.hid (hib.imp id fun h b o s e => by have := h b o s e; have := X.out.lt; show w.heap.size + 2 ≤ b; omega)
        have SL := Lib.hid hsl
        clear ho1 hsl HSD
        replace V := Lib.hid (V.out.after hy1)
        replace X := Lib.hid (X.out.after hy1)
        replace B := B.trans (hy1.mono B.size)
        clear hy1
        have SR := Lib.hid (srcE y1 false p m q)
        have Z1 := Lib.hid (Box.new y1 24 #[.bool false, .slice p m q])
        have ba1 : Below y1.heap.size y1 (y1.alloc (.cells #[.bool false, .slice p m q] 24)) := (Below.refl _ _).alloc (Nat.le_refl _) _
        replace V := Lib.hid (V.out.after ba1)
        replace X := Lib.hid (X.out.after ba1)
        replace SL := Lib.hid (SL.out.after ba1)
        replace B := B.trans (ba1.mono B.size)
        clear ba1
        clear Z1
        have hXl := X.out.lt
        have HZ := Lib.hid (OwnG.nil (y1.alloc (.cells #[.bool false, .slice p m q] 24)) (w.heap.size + 2) 2)
        go_wp2_with (refine wpList_append_E (v := .slice none 0 0) rfl _ _ rfl rfl HZ.out rfl SR.out (by omega) (by omega) ?_; intro v2 w2 ho2 hg2 hw2; obtain ⟨fb, fo, fc, rfl, hfc, hfm, hfr⟩ := ho2.form (by omega))
        clear x4 c3 c4
        unfold maxLen at hfm
        have hfb := Lib.hid (ho2.lt fb rfl)
        have V2 := Box.grown V.out hg2 (fun k hk => by simp [Value.ownBlock] at hk)
        have X2 := Box.grown X.out hg2 (fun k hk => by simp [Value.ownBlock] at hk)
        have B2 := B.grown hg2 B.size (fun k hk => by simp [Value.ownBlock] at hk)
        have SL2 := Lib.hid (SL.out.keep (w' := w2) (SL.out.inB.imp id fun h b o s e => hg2.block b (h b o s e) (by simp [Value.ownBlock])))
        replace hfr : RgA w2 fb fo [.bool false, .slice p m q] := ⟨hfr, (hfb.out).2⟩
        clear V X B SL SR HZ ho2 hg2 hw2
        go_loopw [53] (fun i wr => ∃ k : Nat, i = .int .i64 k ∧ k ≤ 1 ∧ Hid (k = 1 → keyGet (.mk kl kh khi kda ks) = none) ∧ Box wr w.heap.size 33 #[.bool vl, .bool vh, .slice va1 vn1 vc1, .slice va2 vn2 vc2, .slice (some ⟨b, o, none⟩) 2 vc3] ∧ Box wr (w.heap.size + 1) 24 #[.bool false, .slice none 0 0] ∧ Sl wr p m q lst ∧ RgA wr fb fo [.bool false, .slice p m q] ∧ Below w.heap.size w wr) (fun i _ => 1 - (intOf i).toNat)
        case atStart => exact ⟨0, rfl, by omega, Lib.hid (fun h => by omega), V2, X2, SL2.out, hfr, B2⟩
        case round =>
          obtain ⟨k, rfl, hk1, hno, V, X, SL, RG, B⟩ := hrel
          replace V := Lib.hid V
          replace X := Lib.hid X
          replace SL := Lib.hid SL
          replace RG := Lib.hid RG
          clear V2 X2 SL2 hfr B2
          by_cases hk : k = 1
          case pos =>
            subst hk
            have HF := Lib.hid (hno.out rfl)
            go_wp2_with (refine wpList_store_box (cells := #[.bool false, .slice none 0 0]) rfl 24 _ _ rfl X.out (by rfl) (by rfl) rfl (by kernel_rfl) (by simp [Value.oneCell']) ?_; intro u9 X9 st9)
            have B9 := st9.below w.heap.size w (by omega) B
            exact bodyPost_ret (v := .tuple #[.agg #[.bool false, .slice none 0 0], .int .i64 7]) (box_result2 (p := 2) (q := 3) rfl _ _ (by rfl) X9 Tryd.underlying24 rfl (by kernel_rfl)) rfl (.inr ⟨HF.out, rfl, B9⟩)
          case neg =>
            obtain rfl : k = 0 := by omega
            clear hno hk hk1
            go_upto_region 9 with first | (refine wpList_load_midW rfl 24 _ rfl fb _ rfl _ _ RG.out.1 Tryd.underlying24 rfl (by kernel_rfl) ?_) | (refine wpList_store_box (cells := #[.bool false, .slice p m q]) rfl 24 _ _ rfl (Box.new _ _ _) (by rfl) (by rfl) rfl (by kernel_rfl) (by simp [Value.oneCell']) ?_; intro u9 X9 st9)
            have bs2 : Below wr.heap.size wr u9 := st9.below wr.heap.size wr (Nat.le_refl _) ((Below.refl _ _).alloc (Nat.le_refl _) _)
            have Y6 := Lib.hid X9
            replace V := Lib.hid (V.out.after bs2)
            replace X := Lib.hid (X.out.after bs2)
            replace SL := Lib.hid (SL.out.after bs2)
            replace RG := Lib.hid (RG.out.after bs2)
            replace B := B.trans (bs2.mono B.size)
            clear bs2 st9 X9
            generalize u9 = x2 at *
            go_wp2_with (refine wpList_load_box rfl 24 _ rfl Y6.out (by rfl) Tryd.underlying24 rfl (by kernel_rfl) ?_)
            refine (keyPut_any false p m q lst x2 SL.out (by have := SL.out.1; have := HLE.out; omega)).mono ?_
            rintro e z1 hP
            obtain ⟨⟨tl, th, ta1, tn1, tc1, ta2, tn2, tc2, ta3, tn3, tc3⟩, er, rfl, rt, hk, bz1⟩ := hP.out
            clear hP
            have HKK := Lib.hid hk
            clear hk
            replace rt := Lib.hid rt
            replace V := Lib.hid (V.out.after bz1)
            replace X := Lib.hid (X.out.after bz1)
            replace SL := Lib.hid (SL.out.after bz1)
            replace RG := Lib.hid (RG.out.after bz1)
            replace Y6 := Lib.hid (Y6.out.after bz1)
            replace B := B.trans (bz1.mono B.size)
            clear bz1
            go_upto_region 10 with (refine wpList_store_box (cells := #[.bool tl, .bool th, .slice ta1 tn1 tc1, .slice ta2 tn2 tc2, .slice ta3 tn3 tc3]) rfl 33 _ _ rfl (Box.new _ _ _) (by rfl) (by rfl) rfl (by kernel_rfl) (by simp [Value.oneCell']) ?_; intro u9 X9 st9)
            have bs3 : Below z1.heap.size z1 u9 := st9.below z1.heap.size z1 (Nat.le_refl _) ((Below.refl _ _).alloc (Nat.le_refl _) _)
            have Y7 := Lib.hid X9
            replace V := Lib.hid (V.out.after bs3)
            replace X := Lib.hid (X.out.after bs3)
            replace SL := Lib.hid (SL.out.after bs3)
            replace RG := Lib.hid (RG.out.after bs3)
            replace Y6 := Lib.hid (Y6.out.after bs3)
            replace rt := Lib.hid (rt.out.after bs3)
            replace B := B.trans (bs3.mono B.size)
            clear bs3 st9 X9
            generalize u9 = x3 at *
            rcases HKK.out with ⟨rfl, hk⟩ | ⟨rfl, hk⟩
            · skip
              replace hk := Lib.hid hk
              clear HKK
              rw [hk.out] at rt
              replace rt : Hid (RdI _ _ _ (keyS false lst)) := rt
              skip
              have HS := Lib.hid (fun w' h1 h2 => same_any (.mk kl kh khi kda ks) (keyS false lst) ⟨vl, vh, va1, vn1, vc1, va2, vn2, vc2, some ⟨b, o, none⟩, 2, vc3⟩ ⟨tl, th, ta1, tn1, tc1, ta2, tn2, tc2, ta3, tn3, tc3⟩ w' h1 h2)
              obtain ⟨r, hr⟩ : ∃ r, r = (Sx.mk kl kh khi kda ks).same (keyS false lst) := ⟨_, rfl⟩
              simp only [← hr] at HS
              have HRR := Lib.hid hr
              clear hr
              go_wp2_with first | (refine wpList_load_box rfl 33 _ rfl V.out (by rfl) Tryd.underlying33 rfl (by kernel_rfl) ?_) | (refine wpList_load_box rfl 33 _ rfl Y7.out (by rfl) Tryd.underlying33 rfl (by kernel_rfl) ?_)
              refine (HS.out x3 (HRV.out.after B) (rt.out.mono (fun _ _ => trivial))).mono ?_
              rintro e x4 ⟨rfl, bx4⟩
              replace V := Lib.hid (V.out.after bx4)
              replace X := Lib.hid (X.out.after bx4)
              replace SL := Lib.hid (SL.out.after bx4)
              replace RG := Lib.hid (RG.out.after bx4)
              replace Y6 := Lib.hid (Y6.out.after bx4)
              replace rt := Lib.hid (rt.out.after bx4)
              replace Y7 := Lib.hid (Y7.out.after bx4)
              replace B := B.trans (bx4.mono B.size)
              clear bx4
              clear HS
              cases r with
              | true =>
                have HF : Hid (keyGet (.mk kl kh khi kda ks) = some (false, lst)) := Lib.hid (by rw [keyGet_yes HT.out, hk.out, ← HRR.out]; rfl)
                go_wp2_with first | (refine wpList_load_box rfl 24 _ rfl Y6.out (by rfl) Tryd.underlying24 rfl (by kernel_rfl) ?_) | (refine wpList_store_box (cells := #[.bool false, .slice p m q]) rfl 24 _ _ rfl X.out (by rfl) (by rfl) rfl (by kernel_rfl) (by simp [Value.oneCell']) ?_; intro u9 X9 st9)
                have B9 := st9.below w.heap.size w (by omega) B
                have S9 := SL.out.keep (w' := u9) (hib.out.imp id fun h b o s e => st9.other b (by have := h b o s e; omega))
                exact bodyPost_ret (v := .tuple #[.agg #[.bool false, .slice p m q], .int .i64 0]) (box_result2 (p := 2) (q := 3) rfl _ _ (by rfl) X9 Tryd.underlying24 rfl (by kernel_rfl)) rfl (.inl ⟨false, lst, HF.out, p, m, q, rfl, S9, hib.out.imp id (fun h b o s e => by have := h b o s e; omega), B9⟩)
              | false =>
                have HF : Hid (keyGet (.mk kl kh khi kda ks) = none) := Lib.hid (by rw [keyGet_yes HT.out, hk.out, ← HRR.out]; rfl)
                clear rt Y6 Y7
                go_wp2_with fail
                go_roundw
                case rel => exact ⟨1, rfl, by omega, Lib.hid (fun _ => HF.out), V.out, X.out, SL.out, RG.out, B⟩
                case measure => simp [intOf]
            · skip
              replace hk := Lib.hid hk
              clear HKK
              have HF : Hid (keyGet (.mk kl kh khi kda ks) = none) := Lib.hid (by rw [keyGet_yes HT.out, hk.out]; rfl)
              clear rt Y6 Y7
              go_wp2_with fail
              go_roundw
              case rel => exact ⟨1, rfl, by omega, Lib.hid (fun _ => HF.out), V.out, X.out, SL.out, RG.out, B⟩
              case measure => simp [intOf]
    case neg =>
      have q3 : ((vn3 : Int) == 3) = false := by simp; omega
      have q2 : ((vn3 : Int) == 2) = false := by simp; omega
      have HH := Lib.hid (And.intro h2 h3)
      clear h2 h3
      have HF : Hid (keyGet (.mk kl kh khi kda ks) = none) := Lib.hid (keyGet_no (keyTry_n _ _ _ _ _ (by have := HN.out; have := HH.out; omega) (by have := HN.out; have := HH.out; omega)))
      go_wp2_with fail
      go_loopw [53] (fun i wr => i = .int .i64 0 ∧ wr = x0) (fun _ _ => 0)
      case atStart => exact ⟨rfl, rfl⟩
      case round =>
        obtain ⟨rfl, rfl⟩ := hrel
        go_wp2_with (refine wpList_store_box (cells := #[.bool false, .slice none 0 0]) rfl 24 _ _ rfl X.out (by rfl) (by rfl) rfl (by kernel_rfl) (by simp [Value.oneCell']) ?_; intro u9 X9 st9)
        have B9 := st9.below w.heap.size w (by omega) B
        exact bodyPost_ret (v := .tuple #[.agg #[.bool false, .slice none 0 0], .int .i64 7]) (box_result2 (p := 2) (q := 3) rfl _ _ (by rfl) X9 Tryd.underlying24 rfl (by kernel_rfl)) rfl (.inr ⟨HF.out, rfl, B9⟩)

end Go.Proofs.YthmigigclmogiaaDoor
namespace Go.Proofs.YthmigigclmogiaaDoor
open Go.RowKit
set_option linter.unusedSimpArgs false
set_option linter.unusedVariables false

theorem hashB_n (l h : Bool) (hi da : List UInt8) (ks : List Sx) (h3 : ks.length ≠ 3) : hashB (.mk l h hi da ks) = false := by
  match ks, h3 with
  | [], _ => rfl
  | [_], _ => rfl
  | [_, _], _ => rfl
  | [_, _, _], h => exact absurd rfl h
  | _ :: _ :: _ :: _ :: _, _ => rfl
theorem pubB_n (l h : Bool) (hi da : List UInt8) (ks : List Sx) (h2 : ks.length ≠ 2) : pubB (.mk l h hi da ks) = false := by
  match ks, h2 with
  | [], _ => rfl
  | [_], _ => rfl
  | [_, _], h => exact absurd rfl h
  | _ :: _ :: _ :: _, _ => rfl
theorem lastB_n (k : Sx) (h2 : k.ks.length ≠ 2) : lastB k = false := by
  obtain ⟨_, _, _, _, ks⟩ := k
  match ks, h2 with
  | [], _ => rfl
  | [_], _ => rfl
  | [_, _], h => exact absurd rfl h
  | _ :: _ :: _ :: _, _ => rfl
/-- what the document's Get of a principal answers -/
def RKeyP (ok : Nat → Prop) (k : Sx) (w : World) (e : Ending) (w' : World) : Prop :=
  (∃ s l, refKey k = some (s, l) ∧ ∃ a n c, e = .returned (.tuple #[.agg #[.bool s, .slice a n c], .bool true]) ∧ Sl w a n c l ∧ InB ok a n ∧ Below w.heap.size w w') ∨
  (refKey k = none ∧ e = .returned (.tuple #[.agg #[.bool false, .slice none 0 0], .bool false]) ∧ Below w.heap.size w w')

section
variable {P : Program} {ops : Array Oper}
theorem wpList_load_boxG {rest : List Oper} {o : Oper} {a : Act} {w : World} {Q : Exit → Act → World → Prop} (ty : TypeId) (x : Operand) (ho : o.op = .load ty x)
    {g : Nat} {T : TypeId} {cs : Array Value} (hg : Box w g T cs) (hx : a.eval x = .pointer (some ⟨g, 0, none⟩)) {d : TypeDesc}
    (hu : P.underlying ty = some d) (hd : (match d with | .struct _ | .array _ _ => true | _ => false) = true) (hi : (P.info? ty).map (·.size) = some cs.size)
    (hgd : Region.wanted o (yielded ops a.tmps) = true) (h : wpList P ops Q rest (a.put o.dst (.agg cs)) w) : wpList P ops Q (o :: rest) a w := wpList_load_box hgd ty x ho hg hx hu hd hi h
theorem wpList_load_midG {rest : List Oper} {op : Oper} {a : Act} {w : World} {Q : Exit → Act → World → Prop} (ty : TypeId) (x : Operand) (ho : op.op = .load ty x)
    (b o : Nat) (hx : a.eval x = .pointer (some ⟨b, o, none⟩)) (cs : List Value) (d : TypeDesc) (hc : w.rangeAt b o cs)
    (hu : P.underlying ty = some d) (hd : d.isRow = true) (hi : (P.info? ty).map (·.size) = some cs.length)
    (hgd : Region.wanted op (yielded ops a.tmps) = true) (h : wpList P ops Q rest (a.put op.dst (.agg cs.toArray)) w) : wpList P ops Q (op :: rest) a w := wpList_load_midW hgd ty x ho b o hx cs d hc hu hd hi h
end

theorem RKeyP.out {ok : Nat → Prop} {k : Sx} {w w' : World} {e : Ending} (h : RKeyP ok k w e w') : ∃ (s : Bool) (a : Option Addr) (n c : Nat), e = .returned (.tuple #[.agg #[.bool s, .slice a n c], .bool (refKey k).isSome]) ∧ (∀ s' l', refKey k = some (s', l') → s' = s ∧ Sl w a n c l' ∧ InB ok a n) ∧ Below w.heap.size w w' := by
  rcases h with ⟨s, l, h1, a, n, c, rfl, h2, h3, h4⟩ | ⟨h1, rfl, h4⟩
  · exact ⟨s, a, n, c, by rw [h1]; rfl, fun s' l' h => by rw [h1] at h; cases h; exact ⟨rfl, h2, h3⟩, h4⟩
  · exact ⟨false, none, 0, 0, by rw [h1]; rfl, (fun s' l' h => by rw [h1] at h; cases h), h4⟩

/-- the same principal? -/
def keySame (s : Bool) (l : List UInt8) (s2 : Bool) (l2 : List UInt8) : Bool := s == s2 && l == l2

set_option maxHeartbeats 4000000 in
set_option maxRecDepth 100000 in
theorem refKeySame_any (s : Bool) (a : Option Addr) (n c : Nat) (l : List UInt8) (s2 : Bool) (a2 : Option Addr) (n2 c2 : Nat) (l2 : List UInt8) (w : World) (hs : Sl w a n c l) (hs2 : Sl w a2 n2 c2 l2) :
    Calls Tryd.prog 13 #[.agg #[.bool s, .slice a n c], .agg #[.bool s2, .slice a2 n2 c2]] w fun e w' => e = .returned (.bool (keySame s l s2 l2)) ∧ Below w.heap.size w w' := by
  have B0 : Below w.heap.size w ((w.alloc (.cells #[.bool s, .slice a n c] 24)).alloc (.cells #[.bool s2, .slice a2 n2 c2] 24)) := ((Below.refl _ _).alloc (Nat.le_refl _) _).alloc (by simp) _
  have V : Box ((w.alloc (.cells #[.bool s, .slice a n c] 24)).alloc (.cells #[.bool s2, .slice a2 n2 c2] 24)) w.heap.size 24 #[.bool s, .slice a n c] := (Box.new _ _ _).alloc _
  have X : Box ((w.alloc (.cells #[.bool s, .slice a n c] 24)).alloc (.cells #[.bool s2, .slice a2 n2 c2] 24)) (w.heap.size + 1) 24 #[.bool s2, .slice a2 n2 c2] := by
    have := Box.new (w.alloc (.cells #[.bool s, .slice a n c] 24)) 24 #[.bool s2, .slice a2 n2 c2]
    simpa using this
  have x0 := V.cell 0 rfl
  have x1 := V.cell 1 rfl
  have y0 := X.cell 0 rfl
  have y1 := X.cell 1 rfl
  have hc1 := conv_sl (hs.after B0)
  have hc2 := conv_sl (hs2.after B0)
  clear V X hs hs2
  unfold keySame
  by_cases hq : s = s2
  · have e1 : (s == s2) = true := by simp [hq]
    clear hq
    go_enter Tryd.func13, Tryd.ntmps13
    go_upto_region 1 with fail
    change Code.wp _ _ _ _ ((w.alloc (.cells #[.bool s, .slice a n c] 24)).alloc (.cells #[.bool s2, .slice a2 n2 c2] 24))
    generalize ((w.alloc (.cells #[.bool s, .slice a n c] 24)).alloc (.cells #[.bool s2, .slice a2 n2 c2] 24)) = x0w at *
    go_wp2_with fail
    go_ret
    exact ⟨by rw [e1]; simp, B0⟩
  · have e1 : (s == s2) = false := by simp [hq]
    go_enter Tryd.func13, Tryd.ntmps13
    go_upto_region 1 with fail
    change Code.wp _ _ _ _ ((w.alloc (.cells #[.bool s, .slice a n c] 24)).alloc (.cells #[.bool s2, .slice a2 n2 c2] 24))
    generalize ((w.alloc (.cells #[.bool s, .slice a n c] 24)).alloc (.cells #[.bool s2, .slice a2 n2 c2] 24)) = x0w at *
    go_wp2_with fail
    go_ret
    exact ⟨by rw [e1]; rfl, B0⟩

end Go.Proofs.YthmigigclmogiaaDoor

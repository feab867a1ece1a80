/- The document's windows: end, Get; Of, Ends. -/
import Derived.Test.YticjhogofoffmaaDoorCrM
namespace Go.Proofs.YticjhogofoffmaaDoor
open Go.RowKit
set_option linter.unusedSimpArgs false
set_option linter.unusedVariables false

theorem endB_n (l h : Bool) (hi da : List UInt8) (ks : List Sx) (w : List UInt8) (h2 : ks.length ≠ 2) : endB (.mk l h hi da ks) w = false := by
  unfold endB
  match ks, h2 with
  | [], _ => simp [Sx.ks]
  | [_], _ => simp [Sx.ks]
  | [_, _], h => exact absurd rfl h
  | _ :: _ :: _ :: _, _ => simp [Sx.ks]
theorem endN_no {k : Sx} {w : List UInt8} (h : endB k w = false) : endN k w = 0 := by unfold endN; rw [h]; rfl
theorem dateV_no {l : List UInt8} (h : dateOk l = false) : dateV l = 0 := by unfold dateV; rw [h]; rfl
def arr (l : List UInt8) : ByteArray := ⟨l.toArray⟩

set_option maxHeartbeats 8000000 in
set_option maxRecDepth 100000 in
theorem refEnd_any (k : Sx) (t : ByteArray) (tl : List UInt8) (htl : t.toList = tl) (v : SV) (w : World) (hr : Rd w v k) : Calls Tryd.prog 63 #[v.val, .string t] w fun e w' => e = .returned (.tuple #[.int .i64 (endN k tl), .bool (endB k tl)]) ∧ Below w.heap.size w w' := by
  obtain ⟨kl, kh, khi, kda, ks⟩ := k
  have HRV := Lib.hid hr
  obtain ⟨e1, e2, _, _, hn, hnc, hcm, K, hrow, hk⟩ := hr.parts
  obtain ⟨vl, vh, va1, vn1, vc1, va2, vn2, vc2, va3, vn3, vc3⟩ := v
  replace hn : vn3 = ks.length := hn
  replace hnc : vn3 ≤ vc3 := hnc
  replace hcm : vc3 ≤ maxLen := hcm
  unfold maxLen at hcm
  replace hk : ∀ i (hi : i < ks.length), Rd w (K i) ks[i] := hk
  replace hrow : RowAt w va3 vn3 vc3 K := hrow
  have HN := Lib.hid hn
  have HK := Lib.hid hk
  have HROW := Lib.hid hrow
  unfold SV.val
  show Calls _ _ #[.agg #[.bool vl, .bool vh, .slice va1 vn1 vc1, .slice va2 vn2 vc2, .slice va3 vn3 vc3], _] _ _
  have B : Below w.heap.size w (w.alloc (.cells #[.bool vl, .bool vh, .slice va1 vn1 vc1, .slice va2 vn2 vc2, .slice va3 vn3 vc3] 37)) := (Below.refl _ _).alloc (Nat.le_refl _) _
  have V : Hid (Box (w.alloc (.cells #[.bool vl, .bool vh, .slice va1 vn1 vc1, .slice va2 vn2 vc2, .slice va3 vn3 vc3] 37)) w.heap.size 37 #[.bool vl, .bool vh, .slice va1 vn1 vc1, .slice va2 vn2 vc2, .slice va3 vn3 vc3]) := Lib.hid (Box.new _ _ _)
  have C1 := Lib.hid (fun w' h => head_any (.mk kl kh khi kda ks) t ⟨vl, vh, va1, vn1, vc1, va2, vn2, vc2, va3, vn3, vc3⟩ w' h)
  rw [headB_eq _ _ tl htl] at C1
  have HE0 := Lib.hid (fun h => endB_n kl kh khi kda ks tl h)
  have HE1 : Hid (headL (.mk kl kh khi kda ks) tl = false → endB (.mk kl kh khi kda ks) tl = false) := Lib.hid (fun h => by unfold endB; rw [h]; rfl)
  have HE2 : Hid (∀ k0 k1, ks = [k0, k1] → headL (.mk kl kh khi kda ks) tl = true → endB (.mk kl kh khi kda ks) tl = (!k1.l && (!k1.h && dateOk k1.da))) := Lib.hid (fun k0 k1 e h => by unfold endB; rw [h, e]; rfl)
  have HE3 : Hid (∀ k0 k1, ks = [k0, k1] → endN (.mk kl kh khi kda ks) tl = if endB (.mk kl kh khi kda ks) tl then dateV k1.da else 0) := Lib.hid (fun k0 k1 e => by unfold endN; rw [e]; rfl)
  have HE4 : Hid (endB (.mk kl kh khi kda ks) tl = false → endN (.mk kl kh khi kda ks) tl = 0) := Lib.hid endN_no
  generalize headL (.mk kl kh khi kda ks) tl = r1 at *
  generalize endB (.mk kl kh khi kda ks) tl = eb at *
  generalize endN (.mk kl kh khi kda ks) tl = en at *
  clear hr e1 e2 hn hk hrow
  go_enter Tryd.func63, Tryd.ntmps63
  go_upto_region 1 with fail
  change Code.wp _ _ _ _ (w.alloc (.cells #[.bool vl, .bool vh, .slice va1 vn1 vc1, .slice va2 vn2 vc2, .slice va3 vn3 vc3] 37))
  generalize (w.alloc (.cells #[.bool vl, .bool vh, .slice va1 vn1 vc1, .slice va2 vn2 vc2, .slice va3 vn3 vc3] 37)) = x0 at *
  go_wp2_with (refine wpList_load_boxG 37 _ rfl V.out (by rfl) Tryd.underlying37 rfl (by kernel_rfl) rfl ?_)
  refine (C1.out x0 (HRV.out.after B)).mono ?_
  rintro e x1 ⟨rfl, bx1⟩
  replace V := Lib.hid (V.out.after bx1)
  replace B := B.trans (bx1.mono B.size)
  clear bx1
  have v4 := V.out.cell 4 rfl
  cases r1 with
  | false =>
    have HF : Hid (eb = false) := Lib.hid (HE1.out rfl)
    have HG := Lib.hid (HE4.out HF.out)
    go_upto_region 2 with fail
    go_wp2_with fail
    go_ret2
    exact ⟨by rw [HF.out, HG.out]; rfl, B⟩
  | true =>
    by_cases h2 : vn3 = 2
    case neg =>
      have hq2 : ((vn3 : Int) != 2) = true := by simp; omega
      have HH := Lib.hid h2
      clear h2
      have HF : Hid (eb = false) := Lib.hid (HE0.out (by have := HN.out; have := HH.out; omega))
      have HG := Lib.hid (HE4.out HF.out)
      go_upto_region 2 with fail
      go_wp2_with fail
      go_ret2
      exact ⟨by rw [HF.out, HG.out]; rfl, B⟩
    case pos =>
      subst h2
      obtain ⟨k0, k1, rfl⟩ : ∃ k0 k1, ks = [k0, k1] := by
        have := HN.out
        rcases ks with _ | ⟨a, _ | ⟨b, _ | ⟨c, r⟩⟩⟩ <;> simp at this
        exact ⟨_, _, rfl⟩
      have R1 : Hid (Rd w (K 1) k1) := Lib.hid (HK.out 1 (by simp))
      obtain ⟨b, o, rfl, hl1⟩ := (HROW.out.after B).range (i := 1) (by omega)
      have c5 := hl1 0 _ rfl
      have c6 := hl1 1 _ rfl
      have c8 := hl1 3 _ rfl
      rw [show o + 1 * 5 + 0 = o + 5 by omega] at c5
      rw [show o + 1 * 5 + 1 = o + 6 by omega] at c6
      rw [show o + 1 * 5 + 3 = o + 8 by omega] at c8
      clear hl1
      obtain ⟨f1, f2, _, hsd, _⟩ := R1.out.parts
      have HSD := Lib.hid hsd
      have HE5 := Lib.hid (HE2.out k0 k1 rfl rfl)
      have HE6 := Lib.hid (HE3.out k0 k1 rfl)
      rw [← f1, ← f2] at HE5
      skip
      clear hsd f1 f2 HE2 HE3
      generalize k1.da = dl at *
      generalize (K 1) = kv1 at *
      obtain ⟨pl, ph, pa1, pn1, pc1, pa2, pn2, pc2, pa3, pn3, pc3⟩ := kv1
      replace c5 : x1.cell? ⟨b, o + 5, none⟩ = some (.bool pl) := c5
      replace c6 : x1.cell? ⟨b, o + 6, none⟩ = some (.bool ph) := c6
      replace c8 : x1.cell? ⟨b, o + 8, none⟩ = some (.slice pa2 pn2 pc2) := c8
      replace HSD : Hid (Sl w pa2 pn2 pc2 dl) := HSD
      replace HE5 : Hid (eb = (!pl && (!ph && dateOk dl))) := HE5
      cases pl with
      | true =>
        have HF : Hid (eb = false) := Lib.hid (by rw [HE5.out]; rfl)
        have HG := Lib.hid (HE4.out HF.out)
        go_upto_region 2 with fail
        go_wp2_with fail
        go_ret2
        exact ⟨by rw [HF.out, HG.out]; rfl, B⟩
      | false =>
        cases ph with
        | true =>
          have HF : Hid (eb = false) := Lib.hid (by rw [HE5.out]; rfl)
          have HG := Lib.hid (HE4.out HF.out)
          go_upto_region 2 with fail
          go_wp2_with fail
          go_ret2
          exact ⟨by rw [HF.out, HG.out]; rfl, B⟩
        | false =>
          go_wp2_with fail
          refine (refGet_any pa2 pn2 pc2 dl x1 (HSD.out.after B) (by have h1 := HSD.out.1; have h2 := HSD.out.2.1; have h3 := HSD.out.2.2.1; unfold maxLen at h3; omega)).mono ?_
          rintro e x2 ⟨rfl, bx2⟩
          replace V := Lib.hid (V.out.after bx2)
          replace B := B.trans (bx2.mono B.size)
          clear bx2
          go_wp2_with fail
          go_ret2
          exact ⟨by rw [HE6.out, HE5.out]; simp only [Bool.not_false, Bool.true_and]; cases hd : dateOk dl <;> simp [dateV_no, hd] <;> rfl, B⟩

/-- what the document's Get of a window answers -/
def RWinP (s : Sx) (w : World) (e : Ending) (w' : World) : Prop :=
  (∃ x : W4, refWin s = some x ∧ e = .returned (.tuple #[.agg #[.bool x.p, .int .i64 x.f, .bool x.q, .int .i64 x.t], .bool true]) ∧ Below w.heap.size w w') ∨
  (refWin s = none ∧ e = .returned (.tuple #[.agg #[.bool false, .int .i64 0, .bool false, .int .i64 0], .bool false]) ∧ Below w.heap.size w w')

set_option maxHeartbeats 8000000 in
set_option maxRecDepth 100000 in
theorem refWinGet_any (s : Sx) (v : SV) (w : World) (hr : Rd w v s) : Calls Tryd.prog 51 #[v.val] w (RWinP s w) := by
  obtain ⟨kl, kh, khi, kda, ks⟩ := s
  have HRV := Lib.hid hr
  obtain ⟨e1, e2, _, _, hn, hnc, hcm, K, hrow, hk⟩ := hr.parts
  obtain ⟨vl, vh, va1, vn1, vc1, va2, vn2, vc2, va3, vn3, vc3⟩ := v
  replace hn : vn3 = ks.length := hn
  replace hnc : vn3 ≤ vc3 := hnc
  replace hcm : vc3 ≤ maxLen := hcm
  unfold maxLen at hcm
  replace hk : ∀ i (hi : i < ks.length), Rd w (K i) ks[i] := hk
  replace hrow : RowAt w va3 vn3 vc3 K := hrow
  have HN := Lib.hid hn
  have HK := Lib.hid hk
  have HROW := Lib.hid hrow
  unfold SV.val
  show Calls _ _ #[.agg #[.bool vl, .bool vh, .slice va1 vn1 vc1, .slice va2 vn2 vc2, .slice va3 vn3 vc3]] _ _
  have B : Below w.heap.size w ((w.alloc (.cells #[.bool vl, .bool vh, .slice va1 vn1 vc1, .slice va2 vn2 vc2, .slice va3 vn3 vc3] 37)).alloc (.cells #[.bool false, .int .i64 0, .bool false, .int .i64 0] 27)) := ((Below.refl _ _).alloc (Nat.le_refl _) _).alloc (by simp) _
  have V : Hid (Box ((w.alloc (.cells #[.bool vl, .bool vh, .slice va1 vn1 vc1, .slice va2 vn2 vc2, .slice va3 vn3 vc3] 37)).alloc (.cells #[.bool false, .int .i64 0, .bool false, .int .i64 0] 27)) w.heap.size 37 #[.bool vl, .bool vh, .slice va1 vn1 vc1, .slice va2 vn2 vc2, .slice va3 vn3 vc3]) := Lib.hid ((Box.new _ _ _).alloc _)
  have X : Hid (Box ((w.alloc (.cells #[.bool vl, .bool vh, .slice va1 vn1 vc1, .slice va2 vn2 vc2, .slice va3 vn3 vc3] 37)).alloc (.cells #[.bool false, .int .i64 0, .bool false, .int .i64 0] 27)) (w.heap.size + 1) 27 #[.bool false, .int .i64 0, .bool false, .int .i64 0]) := Lib.hid (by
    have := Box.new (w.alloc (.cells #[.bool vl, .bool vh, .slice va1 vn1 vc1, .slice va2 vn2 vc2, .slice va3 vn3 vc3] 37)) 27 #[.bool false, .int .i64 0, .bool false, .int .i64 0]
    simpa using this)
  have C1 := Lib.hid (fun w' h => head_any (.mk kl kh khi kda ks) ⟨#[118, 97, 108, 105, 100]⟩ ⟨vl, vh, va1, vn1, vc1, va2, vn2, vc2, va3, vn3, vc3⟩ w' h)
  rw [headB_eq _ _ vaL (by simp [vaL])] at C1
  clear hr e1 e2 hn hk hrow
  go_enter Tryd.func51, Tryd.ntmps51
  go_upto_region 1 with fail
  change Code.wp _ _ _ _ ((w.alloc (.cells #[.bool vl, .bool vh, .slice va1 vn1 vc1, .slice va2 vn2 vc2, .slice va3 vn3 vc3] 37)).alloc (.cells #[.bool false, .int .i64 0, .bool false, .int .i64 0] 27))
  generalize ((w.alloc (.cells #[.bool vl, .bool vh, .slice va1 vn1 vc1, .slice va2 vn2 vc2, .slice va3 vn3 vc3] 37)).alloc (.cells #[.bool false, .int .i64 0, .bool false, .int .i64 0] 27)) = x0 at *
  go_wp2_with (refine wpList_load_box rfl 37 _ rfl V.out (by rfl) Tryd.underlying37 rfl (by kernel_rfl) ?_)
  refine (C1.out x0 (HRV.out.after B)).mono ?_
  rintro e x1 ⟨rfl, bx1⟩
  replace V := Lib.hid (V.out.after bx1)
  replace X := Lib.hid (X.out.after bx1)
  replace B := B.trans (bx1.mono B.size)
  clear bx1
  generalize hr1 : headL (Sx.mk kl kh khi kda ks) vaL = r1 at *
  replace hr1 := Lib.hid hr1
  have v4 := V.out.cell 4 rfl
  cases r1 with
  | false =>
    have HF : Hid (refWin (Sx.mk kl kh khi kda ks) = none) := Lib.hid (by unfold refWin; rw [hr1.out]; rfl)
    go_upto_region 2 with fail
    go_wp2_with (refine wpList_store_box (cells := #[.bool false, .int .i64 0, .bool false, .int .i64 0]) rfl 27 _ _ rfl X.out (by rfl) (by rfl) rfl (by kernel_rfl) (by simp [Value.oneCell']) ?_; intro u9 X9 st9)
    have B9 := st9.below w.heap.size w (by omega) B
    exact bodyPost_ret (v := .tuple #[.agg #[.bool false, .int .i64 0, .bool false, .int .i64 0], .bool false]) (box_result2 (p := 2) (q := 3) rfl _ _ (by rfl) X9 Tryd.underlying27 rfl (by kernel_rfl)) rfl (.inr ⟨HF.out, rfl, B9⟩)
  | true =>
    go_upto_region 4 with (refine wpList_store_box (cells := #[.bool false, .int .i64 0, .bool false, .int .i64 0]) rfl 27 _ _ rfl (Box.new _ _ _) (by rfl) (by rfl) rfl (by kernel_rfl) (by simp [Value.oneCell']) ?_; intro u9 X9 st9)
    have HYB : Hid (w.heap.size + 2 ≤ x1.heap.size) := Lib.hid (by have := X.out.lt; omega)
    have bs2 : Below x1.heap.size x1 u9 := st9.below x1.heap.size x1 (Nat.le_refl _) ((Below.refl _ _).alloc (Nat.le_refl _) _)
    have Y := Lib.hid X9
    replace V := Lib.hid (V.out.after bs2)
    replace X := Lib.hid (X.out.after bs2)
    replace B := B.trans (bs2.mono B.size)
    clear bs2 st9 X9
    generalize u9 = x2 at *
    skip
    have v4 := V.out.cell 4 rfl
    obtain ⟨k0, r, rfl⟩ : ∃ k0 r, ks = k0 :: r := by
      rcases ks with _ | ⟨a, r⟩
      · have := hr1.out; simp [headL, Sx.ks] at this
      · exact ⟨_, _, rfl⟩
    have HRW : Hid (refWin (Sx.mk kl kh khi kda (k0 :: r)) = (match (endTake (endTake r nbL).2.2 naL).2.2 with | [] => some ⟨(endTake r nbL).1, (endTake r nbL).2.1, (endTake (endTake r nbL).2.2 naL).1, (endTake (endTake r nbL).2.2 naL).2.1⟩ | _ => none)) := Lib.hid (by unfold refWin; rw [hr1.out, if_pos rfl]; rfl)
    clear hr1
    generalize x1.heap.size = yb at *
    rcases r with _ | ⟨k1, _ | ⟨k2, _ | ⟨k3, r⟩⟩⟩
    · skip
      obtain rfl : vn3 = 1 := by have := HN.out; simpa using this
      by_cases hc : vc3 = 1
      case pos =>
        subst hc
        obtain ⟨b, o, rfl, _⟩ := HROW.out.range (i := 0) (by omega)
        have hyb : w.heap.size + 2 ≤ yb := HYB.out
        have HF : Hid (refWin (Sx.mk kl kh khi kda (k0 :: [])) = some ⟨false, 0, false, 0⟩) := Lib.hid (by rw [HRW.out]; rfl)
        go_upto_region 19 with fail
        go_wp2_with first | (refine wpList_load_box rfl 27 _ rfl Y.out (by rfl) Tryd.underlying27 rfl (by kernel_rfl) ?_) | (refine wpList_store_box (cells := #[.bool false, .int .i64 0, .bool false, .int .i64 0]) rfl 27 _ _ rfl X.out (by rfl) (by rfl) rfl (by kernel_rfl) (by simp [Value.oneCell']) ?_; intro u9 X9 st9)
        have B9 := st9.below w.heap.size w (by omega) B
        exact bodyPost_ret (v := .tuple #[.agg #[.bool false, .int .i64 0, .bool false, .int .i64 0], .bool true]) (box_result2 (p := 2) (q := 3) rfl _ _ (by rfl) X9 Tryd.underlying27 rfl (by kernel_rfl)) rfl (.inl ⟨_, HF.out, rfl, B9⟩)
      case neg =>
        obtain ⟨cc, rfl⟩ : ∃ cc, vc3 = cc + 2 := ⟨vc3 - 2, by omega⟩
        clear hc
        obtain ⟨b, o, rfl, _⟩ := HROW.out.range (i := 0) (by omega)
        have hyb : w.heap.size + 2 ≤ yb := HYB.out
        have HF : Hid (refWin (Sx.mk kl kh khi kda (k0 :: [])) = some ⟨false, 0, false, 0⟩) := Lib.hid (by rw [HRW.out]; rfl)
        go_upto_region 19 with fail
        go_wp2_with first | (refine wpList_load_box rfl 27 _ rfl Y.out (by rfl) Tryd.underlying27 rfl (by kernel_rfl) ?_) | (refine wpList_store_box (cells := #[.bool false, .int .i64 0, .bool false, .int .i64 0]) rfl 27 _ _ rfl X.out (by rfl) (by rfl) rfl (by kernel_rfl) (by simp [Value.oneCell']) ?_; intro u9 X9 st9)
        have B9 := st9.below w.heap.size w (by omega) B
        exact bodyPost_ret (v := .tuple #[.agg #[.bool false, .int .i64 0, .bool false, .int .i64 0], .bool true]) (box_result2 (p := 2) (q := 3) rfl _ _ (by rfl) X9 Tryd.underlying27 rfl (by kernel_rfl)) rfl (.inl ⟨_, HF.out, rfl, B9⟩)
    · skip
      obtain rfl : vn3 = 2 := by have := HN.out; simpa using this
      by_cases hc : vc3 = 2
      case pos =>
        subst hc
        obtain ⟨b, o, rfl, _⟩ := HROW.out.range (i := 0) (by omega)
        have hyb : w.heap.size + 2 ≤ yb := HYB.out
        have hl11 := Lib.hid ((HROW.out.after B).rangeA (i := 1) (by omega))
        go_wp2_with (refine wpList_load_midW rfl 37 _ rfl b _ rfl _ _ hl11.out Tryd.underlying37 rfl (by kernel_rfl) ?_)
        refine (refEnd_any k1 ⟨#[110, 111, 116, 45, 98, 101, 102, 111, 114, 101]⟩ nbL (by simp [nbL]) (K 1) x2 ((HK.out 1 (by simp)).after B)).mono ?_
        rintro e x3 ⟨rfl, bx3⟩
        replace V := Lib.hid (V.out.after bx3)
        replace X := Lib.hid (X.out.after bx3)
        replace Y := Lib.hid (Y.out.after bx3)
        replace B := B.trans (bx3.mono B.size)
        clear bx3
        clear hl11
        generalize heb1 : endB k1 nbL = eb1 at *
        generalize hen1 : endN k1 nbL = en1 at *
        replace heb1 := Lib.hid heb1
        replace hen1 := Lib.hid hen1
        cases eb1 with
        | true =>
          have g0 := Y.out.cell 0 rfl
          have g1 := Y.out.cell 1 rfl
          have f0 := Y.out.frozen 0
          have f1 := Y.out.frozen 1
          go_upto_region 10 with fail
          have Y8 : Box ((x3.setCell ⟨yb, 0, none⟩ (.bool true)).setCell ⟨yb, 1, none⟩ (.int .i64 en1)) yb 27 #[.bool true, .int .i64 en1, .bool false, .int .i64 0] := (Y.out.set 0 _).set 1 _
          have V8 : Box ((x3.setCell ⟨yb, 0, none⟩ (.bool true)).setCell ⟨yb, 1, none⟩ (.int .i64 en1)) w.heap.size 37 #[.bool vl, .bool vh, .slice va1 vn1 vc1, .slice va2 vn2 vc2, .slice (some ⟨b, o, none⟩) 2 2] := (V.out.far ⟨yb, 0, none⟩ _ (by show w.heap.size ≠ yb; omega)).far ⟨yb, 1, none⟩ _ (by show w.heap.size ≠ yb; omega)
          have X8 : Box ((x3.setCell ⟨yb, 0, none⟩ (.bool true)).setCell ⟨yb, 1, none⟩ (.int .i64 en1)) (w.heap.size + 1) 27 #[.bool false, .int .i64 0, .bool false, .int .i64 0] := (X.out.far ⟨yb, 0, none⟩ _ (by show w.heap.size + 1 ≠ yb; omega)).far ⟨yb, 1, none⟩ _ (by show w.heap.size + 1 ≠ yb; omega)
          have B8 : Below w.heap.size w ((x3.setCell ⟨yb, 0, none⟩ (.bool true)).setCell ⟨yb, 1, none⟩ (.int .i64 en1)) := (B.setCell (p := ⟨yb, 0, none⟩) (by show w.heap.size ≤ yb; omega) _).setCell (p := ⟨yb, 1, none⟩) (by show w.heap.size ≤ yb; omega) _
          clear g0 g1 f0 f1 V X Y B
          generalize ((x3.setCell ⟨yb, 0, none⟩ (.bool true)).setCell ⟨yb, 1, none⟩ (.int .i64 en1)) = u10_ at *
          have V := Lib.hid V8
          have X := Lib.hid X8
          have Y := Lib.hid Y8
          have B := B8
          clear V8 X8 Y8 B8
          have HF : Hid (refWin (Sx.mk kl kh khi kda (k0 :: k1 :: [])) = some ⟨true, en1, false, 0⟩) := Lib.hid (by rw [HRW.out]; simp [endTake, heb1.out, hen1.out])
          go_upto_region 19 with fail
          go_wp2_with first | (refine wpList_load_box rfl 27 _ rfl Y.out (by rfl) Tryd.underlying27 rfl (by kernel_rfl) ?_) | (refine wpList_store_box (cells := #[.bool true, .int .i64 en1, .bool false, .int .i64 0]) rfl 27 _ _ rfl X.out (by rfl) (by rfl) rfl (by kernel_rfl) (by simp [Value.oneCell']) ?_; intro u9 X9 st9)
          have B9 := st9.below w.heap.size w (by omega) B
          exact bodyPost_ret (v := .tuple #[.agg #[.bool true, .int .i64 en1, .bool false, .int .i64 0], .bool true]) (box_result2 (p := 2) (q := 3) rfl _ _ (by rfl) X9 Tryd.underlying27 rfl (by kernel_rfl)) rfl (.inl ⟨_, HF.out, rfl, B9⟩)
        | false =>
          have hl12 := Lib.hid ((HROW.out.after B).rangeA (i := 1) (by omega))
          go_wp2_with (refine wpList_load_midW rfl 37 _ rfl b _ rfl _ _ hl12.out Tryd.underlying37 rfl (by kernel_rfl) ?_)
          refine (refEnd_any k1 ⟨#[110, 111, 116, 45, 97, 102, 116, 101, 114]⟩ naL (by simp [naL]) (K 1) x3 ((HK.out 1 (by simp)).after B)).mono ?_
          rintro e x4 ⟨rfl, bx4⟩
          replace V := Lib.hid (V.out.after bx4)
          replace X := Lib.hid (X.out.after bx4)
          replace Y := Lib.hid (Y.out.after bx4)
          replace B := B.trans (bx4.mono B.size)
          clear bx4
          clear hl12
          generalize heb2 : endB k1 naL = eb2 at *
          generalize hen2 : endN k1 naL = en2 at *
          replace heb2 := Lib.hid heb2
          replace hen2 := Lib.hid hen2
          cases eb2 with
          | true =>
            have g2 := Y.out.cell 2 rfl
            have g3 := Y.out.cell 3 rfl
            have f2 := Y.out.frozen 2
            have f3 := Y.out.frozen 3
            go_upto_region 16 with fail
            have Y8 : Box ((x4.setCell ⟨yb, 2, none⟩ (.bool true)).setCell ⟨yb, 3, none⟩ (.int .i64 en2)) yb 27 #[.bool false, .int .i64 0, .bool true, .int .i64 en2] := (Y.out.set 2 _).set 3 _
            have V8 : Box ((x4.setCell ⟨yb, 2, none⟩ (.bool true)).setCell ⟨yb, 3, none⟩ (.int .i64 en2)) w.heap.size 37 #[.bool vl, .bool vh, .slice va1 vn1 vc1, .slice va2 vn2 vc2, .slice (some ⟨b, o, none⟩) 2 2] := (V.out.far ⟨yb, 2, none⟩ _ (by show w.heap.size ≠ yb; omega)).far ⟨yb, 3, none⟩ _ (by show w.heap.size ≠ yb; omega)
            have X8 : Box ((x4.setCell ⟨yb, 2, none⟩ (.bool true)).setCell ⟨yb, 3, none⟩ (.int .i64 en2)) (w.heap.size + 1) 27 #[.bool false, .int .i64 0, .bool false, .int .i64 0] := (X.out.far ⟨yb, 2, none⟩ _ (by show w.heap.size + 1 ≠ yb; omega)).far ⟨yb, 3, none⟩ _ (by show w.heap.size + 1 ≠ yb; omega)
            have B8 : Below w.heap.size w ((x4.setCell ⟨yb, 2, none⟩ (.bool true)).setCell ⟨yb, 3, none⟩ (.int .i64 en2)) := (B.setCell (p := ⟨yb, 2, none⟩) (by show w.heap.size ≤ yb; omega) _).setCell (p := ⟨yb, 3, none⟩) (by show w.heap.size ≤ yb; omega) _
            clear g2 g3 f2 f3 V X Y B
            generalize ((x4.setCell ⟨yb, 2, none⟩ (.bool true)).setCell ⟨yb, 3, none⟩ (.int .i64 en2)) = u16_ at *
            have V := Lib.hid V8
            have X := Lib.hid X8
            have Y := Lib.hid Y8
            have B := B8
            clear V8 X8 Y8 B8
            have HF : Hid (refWin (Sx.mk kl kh khi kda (k0 :: k1 :: [])) = some ⟨false, 0, true, en2⟩) := Lib.hid (by rw [HRW.out]; simp [endTake, heb1.out, hen1.out, heb2.out, hen2.out])
            go_upto_region 19 with fail
            go_wp2_with first | (refine wpList_load_box rfl 27 _ rfl Y.out (by rfl) Tryd.underlying27 rfl (by kernel_rfl) ?_) | (refine wpList_store_box (cells := #[.bool false, .int .i64 0, .bool true, .int .i64 en2]) rfl 27 _ _ rfl X.out (by rfl) (by rfl) rfl (by kernel_rfl) (by simp [Value.oneCell']) ?_; intro u9 X9 st9)
            have B9 := st9.below w.heap.size w (by omega) B
            exact bodyPost_ret (v := .tuple #[.agg #[.bool false, .int .i64 0, .bool true, .int .i64 en2], .bool true]) (box_result2 (p := 2) (q := 3) rfl _ _ (by rfl) X9 Tryd.underlying27 rfl (by kernel_rfl)) rfl (.inl ⟨_, HF.out, rfl, B9⟩)
          | false =>
            have HF : Hid (refWin (Sx.mk kl kh khi kda (k0 :: k1 :: [])) = none) := Lib.hid (by rw [HRW.out]; simp [endTake, heb1.out, hen1.out, heb2.out, hen2.out])
            go_upto_region 18 with fail
            go_wp2_with (refine wpList_store_box (cells := #[.bool false, .int .i64 0, .bool false, .int .i64 0]) rfl 27 _ _ rfl X.out (by rfl) (by rfl) rfl (by kernel_rfl) (by simp [Value.oneCell']) ?_; intro u9 X9 st9)
            have B9 := st9.below w.heap.size w (by omega) B
            exact bodyPost_ret (v := .tuple #[.agg #[.bool false, .int .i64 0, .bool false, .int .i64 0], .bool false]) (box_result2 (p := 2) (q := 3) rfl _ _ (by rfl) X9 Tryd.underlying27 rfl (by kernel_rfl)) rfl (.inr ⟨HF.out, rfl, B9⟩)
      case neg =>
        obtain ⟨cc, rfl⟩ : ∃ cc, vc3 = cc + 3 := ⟨vc3 - 3, by omega⟩
        clear hc
        obtain ⟨b, o, rfl, _⟩ := HROW.out.range (i := 0) (by omega)
        have hyb : w.heap.size + 2 ≤ yb := HYB.out
        have hl11 := Lib.hid ((HROW.out.after B).rangeA (i := 1) (by omega))
        go_wp2_with (refine wpList_load_midW rfl 37 _ rfl b _ rfl _ _ hl11.out Tryd.underlying37 rfl (by kernel_rfl) ?_)
        refine (refEnd_any k1 ⟨#[110, 111, 116, 45, 98, 101, 102, 111, 114, 101]⟩ nbL (by simp [nbL]) (K 1) x2 ((HK.out 1 (by simp)).after B)).mono ?_
        rintro e x3 ⟨rfl, bx3⟩
        replace V := Lib.hid (V.out.after bx3)
        replace X := Lib.hid (X.out.after bx3)
        replace Y := Lib.hid (Y.out.after bx3)
        replace B := B.trans (bx3.mono B.size)
        clear bx3
        clear hl11
        generalize heb1 : endB k1 nbL = eb1 at *
        generalize hen1 : endN k1 nbL = en1 at *
        replace heb1 := Lib.hid heb1
        replace hen1 := Lib.hid hen1
        cases eb1 with
        | true =>
          have g0 := Y.out.cell 0 rfl
          have g1 := Y.out.cell 1 rfl
          have f0 := Y.out.frozen 0
          have f1 := Y.out.frozen 1
          go_upto_region 10 with fail
          have Y8 : Box ((x3.setCell ⟨yb, 0, none⟩ (.bool true)).setCell ⟨yb, 1, none⟩ (.int .i64 en1)) yb 27 #[.bool true, .int .i64 en1, .bool false, .int .i64 0] := (Y.out.set 0 _).set 1 _
          have V8 : Box ((x3.setCell ⟨yb, 0, none⟩ (.bool true)).setCell ⟨yb, 1, none⟩ (.int .i64 en1)) w.heap.size 37 #[.bool vl, .bool vh, .slice va1 vn1 vc1, .slice va2 vn2 vc2, .slice (some ⟨b, o, none⟩) 2 (cc + 3)] := (V.out.far ⟨yb, 0, none⟩ _ (by show w.heap.size ≠ yb; omega)).far ⟨yb, 1, none⟩ _ (by show w.heap.size ≠ yb; omega)
          have X8 : Box ((x3.setCell ⟨yb, 0, none⟩ (.bool true)).setCell ⟨yb, 1, none⟩ (.int .i64 en1)) (w.heap.size + 1) 27 #[.bool false, .int .i64 0, .bool false, .int .i64 0] := (X.out.far ⟨yb, 0, none⟩ _ (by show w.heap.size + 1 ≠ yb; omega)).far ⟨yb, 1, none⟩ _ (by show w.heap.size + 1 ≠ yb; omega)
          have B8 : Below w.heap.size w ((x3.setCell ⟨yb, 0, none⟩ (.bool true)).setCell ⟨yb, 1, none⟩ (.int .i64 en1)) := (B.setCell (p := ⟨yb, 0, none⟩) (by show w.heap.size ≤ yb; omega) _).setCell (p := ⟨yb, 1, none⟩) (by show w.heap.size ≤ yb; omega) _
          clear g0 g1 f0 f1 V X Y B
          generalize ((x3.setCell ⟨yb, 0, none⟩ (.bool true)).setCell ⟨yb, 1, none⟩ (.int .i64 en1)) = u10_ at *
          have V := Lib.hid V8
          have X := Lib.hid X8
          have Y := Lib.hid Y8
          have B := B8
          clear V8 X8 Y8 B8
          have HF : Hid (refWin (Sx.mk kl kh khi kda (k0 :: k1 :: [])) = some ⟨true, en1, false, 0⟩) := Lib.hid (by rw [HRW.out]; simp [endTake, heb1.out, hen1.out])
          go_upto_region 19 with fail
          go_wp2_with first | (refine wpList_load_box rfl 27 _ rfl Y.out (by rfl) Tryd.underlying27 rfl (by kernel_rfl) ?_) | (refine wpList_store_box (cells := #[.bool true, .int .i64 en1, .bool false, .int .i64 0]) rfl 27 _ _ rfl X.out (by rfl) (by rfl) rfl (by kernel_rfl) (by simp [Value.oneCell']) ?_; intro u9 X9 st9)
          have B9 := st9.below w.heap.size w (by omega) B
          exact bodyPost_ret (v := .tuple #[.agg #[.bool true, .int .i64 en1, .bool false, .int .i64 0], .bool true]) (box_result2 (p := 2) (q := 3) rfl _ _ (by rfl) X9 Tryd.underlying27 rfl (by kernel_rfl)) rfl (.inl ⟨_, HF.out, rfl, B9⟩)
        | false =>
          have hl12 := Lib.hid ((HROW.out.after B).rangeA (i := 1) (by omega))
          go_wp2_with (refine wpList_load_midW rfl 37 _ rfl b _ rfl _ _ hl12.out Tryd.underlying37 rfl (by kernel_rfl) ?_)
          refine (refEnd_any k1 ⟨#[110, 111, 116, 45, 97, 102, 116, 101, 114]⟩ naL (by simp [naL]) (K 1) x3 ((HK.out 1 (by simp)).after B)).mono ?_
          rintro e x4 ⟨rfl, bx4⟩
          replace V := Lib.hid (V.out.after bx4)
          replace X := Lib.hid (X.out.after bx4)
          replace Y := Lib.hid (Y.out.after bx4)
          replace B := B.trans (bx4.mono B.size)
          clear bx4
          clear hl12
          generalize heb2 : endB k1 naL = eb2 at *
          generalize hen2 : endN k1 naL = en2 at *
          replace heb2 := Lib.hid heb2
          replace hen2 := Lib.hid hen2
          cases eb2 with
          | true =>
            have g2 := Y.out.cell 2 rfl
            have g3 := Y.out.cell 3 rfl
            have f2 := Y.out.frozen 2
            have f3 := Y.out.frozen 3
            go_upto_region 16 with fail
            have Y8 : Box ((x4.setCell ⟨yb, 2, none⟩ (.bool true)).setCell ⟨yb, 3, none⟩ (.int .i64 en2)) yb 27 #[.bool false, .int .i64 0, .bool true, .int .i64 en2] := (Y.out.set 2 _).set 3 _
            have V8 : Box ((x4.setCell ⟨yb, 2, none⟩ (.bool true)).setCell ⟨yb, 3, none⟩ (.int .i64 en2)) w.heap.size 37 #[.bool vl, .bool vh, .slice va1 vn1 vc1, .slice va2 vn2 vc2, .slice (some ⟨b, o, none⟩) 2 (cc + 3)] := (V.out.far ⟨yb, 2, none⟩ _ (by show w.heap.size ≠ yb; omega)).far ⟨yb, 3, none⟩ _ (by show w.heap.size ≠ yb; omega)
            have X8 : Box ((x4.setCell ⟨yb, 2, none⟩ (.bool true)).setCell ⟨yb, 3, none⟩ (.int .i64 en2)) (w.heap.size + 1) 27 #[.bool false, .int .i64 0, .bool false, .int .i64 0] := (X.out.far ⟨yb, 2, none⟩ _ (by show w.heap.size + 1 ≠ yb; omega)).far ⟨yb, 3, none⟩ _ (by show w.heap.size + 1 ≠ yb; omega)
            have B8 : Below w.heap.size w ((x4.setCell ⟨yb, 2, none⟩ (.bool true)).setCell ⟨yb, 3, none⟩ (.int .i64 en2)) := (B.setCell (p := ⟨yb, 2, none⟩) (by show w.heap.size ≤ yb; omega) _).setCell (p := ⟨yb, 3, none⟩) (by show w.heap.size ≤ yb; omega) _
            clear g2 g3 f2 f3 V X Y B
            generalize ((x4.setCell ⟨yb, 2, none⟩ (.bool true)).setCell ⟨yb, 3, none⟩ (.int .i64 en2)) = u16_ at *
            have V := Lib.hid V8
            have X := Lib.hid X8
            have Y := Lib.hid Y8
            have B := B8
            clear V8 X8 Y8 B8
            have HF : Hid (refWin (Sx.mk kl kh khi kda (k0 :: k1 :: [])) = some ⟨false, 0, true, en2⟩) := Lib.hid (by rw [HRW.out]; simp [endTake, heb1.out, hen1.out, heb2.out, hen2.out])
            go_upto_region 19 with fail
            go_wp2_with first | (refine wpList_load_box rfl 27 _ rfl Y.out (by rfl) Tryd.underlying27 rfl (by kernel_rfl) ?_) | (refine wpList_store_box (cells := #[.bool false, .int .i64 0, .bool true, .int .i64 en2]) rfl 27 _ _ rfl X.out (by rfl) (by rfl) rfl (by kernel_rfl) (by simp [Value.oneCell']) ?_; intro u9 X9 st9)
            have B9 := st9.below w.heap.size w (by omega) B
            exact bodyPost_ret (v := .tuple #[.agg #[.bool false, .int .i64 0, .bool true, .int .i64 en2], .bool true]) (box_result2 (p := 2) (q := 3) rfl _ _ (by rfl) X9 Tryd.underlying27 rfl (by kernel_rfl)) rfl (.inl ⟨_, HF.out, rfl, B9⟩)
          | false =>
            have HF : Hid (refWin (Sx.mk kl kh khi kda (k0 :: k1 :: [])) = none) := Lib.hid (by rw [HRW.out]; simp [endTake, heb1.out, hen1.out, heb2.out, hen2.out])
            go_upto_region 18 with fail
            go_wp2_with (refine wpList_store_box (cells := #[.bool false, .int .i64 0, .bool false, .int .i64 0]) rfl 27 _ _ rfl X.out (by rfl) (by rfl) rfl (by kernel_rfl) (by simp [Value.oneCell']) ?_; intro u9 X9 st9)
            have B9 := st9.below w.heap.size w (by omega) B
            exact bodyPost_ret (v := .tuple #[.agg #[.bool false, .int .i64 0, .bool false, .int .i64 0], .bool false]) (box_result2 (p := 2) (q := 3) rfl _ _ (by rfl) X9 Tryd.underlying27 rfl (by kernel_rfl)) rfl (.inr ⟨HF.out, rfl, B9⟩)
    · skip
      obtain rfl : vn3 = 3 := by have := HN.out; simpa using this
      by_cases hc : vc3 = 3
      case pos =>
        subst hc
        obtain ⟨b, o, rfl, _⟩ := HROW.out.range (i := 0) (by omega)
        have hyb : w.heap.size + 2 ≤ yb := HYB.out
        have hl11 := Lib.hid ((HROW.out.after B).rangeA (i := 1) (by omega))
        go_wp2_with (refine wpList_load_midW rfl 37 _ rfl b _ rfl _ _ hl11.out Tryd.underlying37 rfl (by kernel_rfl) ?_)
        refine (refEnd_any k1 ⟨#[110, 111, 116, 45, 98, 101, 102, 111, 114, 101]⟩ nbL (by simp [nbL]) (K 1) x2 ((HK.out 1 (by simp)).after B)).mono ?_
        rintro e x3 ⟨rfl, bx3⟩
        replace V := Lib.hid (V.out.after bx3)
        replace X := Lib.hid (X.out.after bx3)
        replace Y := Lib.hid (Y.out.after bx3)
        replace B := B.trans (bx3.mono B.size)
        clear bx3
        clear hl11
        generalize heb1 : endB k1 nbL = eb1 at *
        generalize hen1 : endN k1 nbL = en1 at *
        replace heb1 := Lib.hid heb1
        replace hen1 := Lib.hid hen1
        cases eb1 with
        | true =>
          have g0 := Y.out.cell 0 rfl
          have g1 := Y.out.cell 1 rfl
          have f0 := Y.out.frozen 0
          have f1 := Y.out.frozen 1
          go_upto_region 10 with fail
          have Y8 : Box ((x3.setCell ⟨yb, 0, none⟩ (.bool true)).setCell ⟨yb, 1, none⟩ (.int .i64 en1)) yb 27 #[.bool true, .int .i64 en1, .bool false, .int .i64 0] := (Y.out.set 0 _).set 1 _
          have V8 : Box ((x3.setCell ⟨yb, 0, none⟩ (.bool true)).setCell ⟨yb, 1, none⟩ (.int .i64 en1)) w.heap.size 37 #[.bool vl, .bool vh, .slice va1 vn1 vc1, .slice va2 vn2 vc2, .slice (some ⟨b, o, none⟩) 3 3] := (V.out.far ⟨yb, 0, none⟩ _ (by show w.heap.size ≠ yb; omega)).far ⟨yb, 1, none⟩ _ (by show w.heap.size ≠ yb; omega)
          have X8 : Box ((x3.setCell ⟨yb, 0, none⟩ (.bool true)).setCell ⟨yb, 1, none⟩ (.int .i64 en1)) (w.heap.size + 1) 27 #[.bool false, .int .i64 0, .bool false, .int .i64 0] := (X.out.far ⟨yb, 0, none⟩ _ (by show w.heap.size + 1 ≠ yb; omega)).far ⟨yb, 1, none⟩ _ (by show w.heap.size + 1 ≠ yb; omega)
          have B8 : Below w.heap.size w ((x3.setCell ⟨yb, 0, none⟩ (.bool true)).setCell ⟨yb, 1, none⟩ (.int .i64 en1)) := (B.setCell (p := ⟨yb, 0, none⟩) (by show w.heap.size ≤ yb; omega) _).setCell (p := ⟨yb, 1, none⟩) (by show w.heap.size ≤ yb; omega) _
          clear g0 g1 f0 f1 V X Y B
          generalize ((x3.setCell ⟨yb, 0, none⟩ (.bool true)).setCell ⟨yb, 1, none⟩ (.int .i64 en1)) = u10_ at *
          have V := Lib.hid V8
          have X := Lib.hid X8
          have Y := Lib.hid Y8
          have B := B8
          clear V8 X8 Y8 B8
          have hl22 := Lib.hid ((HROW.out.after B).rangeA (i := 2) (by omega))
          go_wp2_with (refine wpList_load_midW rfl 37 _ rfl b _ rfl _ _ hl22.out Tryd.underlying37 rfl (by kernel_rfl) ?_)
          refine (refEnd_any k2 ⟨#[110, 111, 116, 45, 97, 102, 116, 101, 114]⟩ naL (by simp [naL]) (K 2) u10_ ((HK.out 2 (by simp)).after B)).mono ?_
          rintro e x4 ⟨rfl, bx4⟩
          replace V := Lib.hid (V.out.after bx4)
          replace X := Lib.hid (X.out.after bx4)
          replace Y := Lib.hid (Y.out.after bx4)
          replace B := B.trans (bx4.mono B.size)
          clear bx4
          clear hl22
          generalize heb2 : endB k2 naL = eb2 at *
          generalize hen2 : endN k2 naL = en2 at *
          replace heb2 := Lib.hid heb2
          replace hen2 := Lib.hid hen2
          cases eb2 with
          | true =>
            have g2 := Y.out.cell 2 rfl
            have g3 := Y.out.cell 3 rfl
            have f2 := Y.out.frozen 2
            have f3 := Y.out.frozen 3
            go_upto_region 16 with fail
            have Y8 : Box ((x4.setCell ⟨yb, 2, none⟩ (.bool true)).setCell ⟨yb, 3, none⟩ (.int .i64 en2)) yb 27 #[.bool true, .int .i64 en1, .bool true, .int .i64 en2] := (Y.out.set 2 _).set 3 _
            have V8 : Box ((x4.setCell ⟨yb, 2, none⟩ (.bool true)).setCell ⟨yb, 3, none⟩ (.int .i64 en2)) w.heap.size 37 #[.bool vl, .bool vh, .slice va1 vn1 vc1, .slice va2 vn2 vc2, .slice (some ⟨b, o, none⟩) 3 3] := (V.out.far ⟨yb, 2, none⟩ _ (by show w.heap.size ≠ yb; omega)).far ⟨yb, 3, none⟩ _ (by show w.heap.size ≠ yb; omega)
            have X8 : Box ((x4.setCell ⟨yb, 2, none⟩ (.bool true)).setCell ⟨yb, 3, none⟩ (.int .i64 en2)) (w.heap.size + 1) 27 #[.bool false, .int .i64 0, .bool false, .int .i64 0] := (X.out.far ⟨yb, 2, none⟩ _ (by show w.heap.size + 1 ≠ yb; omega)).far ⟨yb, 3, none⟩ _ (by show w.heap.size + 1 ≠ yb; omega)
            have B8 : Below w.heap.size w ((x4.setCell ⟨yb, 2, none⟩ (.bool true)).setCell ⟨yb, 3, none⟩ (.int .i64 en2)) := (B.setCell (p := ⟨yb, 2, none⟩) (by show w.heap.size ≤ yb; omega) _).setCell (p := ⟨yb, 3, none⟩) (by show w.heap.size ≤ yb; omega) _
            clear g2 g3 f2 f3 V X Y B
            generalize ((x4.setCell ⟨yb, 2, none⟩ (.bool true)).setCell ⟨yb, 3, none⟩ (.int .i64 en2)) = u16_ at *
            have V := Lib.hid V8
            have X := Lib.hid X8
            have Y := Lib.hid Y8
            have B := B8
            clear V8 X8 Y8 B8
            have HF : Hid (refWin (Sx.mk kl kh khi kda (k0 :: k1 :: k2 :: [])) = some ⟨true, en1, true, en2⟩) := Lib.hid (by rw [HRW.out]; simp [endTake, heb1.out, hen1.out, heb2.out, hen2.out])
            go_upto_region 19 with fail
            go_wp2_with first | (refine wpList_load_box rfl 27 _ rfl Y.out (by rfl) Tryd.underlying27 rfl (by kernel_rfl) ?_) | (refine wpList_store_box (cells := #[.bool true, .int .i64 en1, .bool true, .int .i64 en2]) rfl 27 _ _ rfl X.out (by rfl) (by rfl) rfl (by kernel_rfl) (by simp [Value.oneCell']) ?_; intro u9 X9 st9)
            have B9 := st9.below w.heap.size w (by omega) B
            exact bodyPost_ret (v := .tuple #[.agg #[.bool true, .int .i64 en1, .bool true, .int .i64 en2], .bool true]) (box_result2 (p := 2) (q := 3) rfl _ _ (by rfl) X9 Tryd.underlying27 rfl (by kernel_rfl)) rfl (.inl ⟨_, HF.out, rfl, B9⟩)
          | false =>
            have HF : Hid (refWin (Sx.mk kl kh khi kda (k0 :: k1 :: k2 :: [])) = none) := Lib.hid (by rw [HRW.out]; simp [endTake, heb1.out, hen1.out, heb2.out, hen2.out])
            go_upto_region 18 with fail
            go_wp2_with (refine wpList_store_box (cells := #[.bool false, .int .i64 0, .bool false, .int .i64 0]) rfl 27 _ _ rfl X.out (by rfl) (by rfl) rfl (by kernel_rfl) (by simp [Value.oneCell']) ?_; intro u9 X9 st9)
            have B9 := st9.below w.heap.size w (by omega) B
            exact bodyPost_ret (v := .tuple #[.agg #[.bool false, .int .i64 0, .bool false, .int .i64 0], .bool false]) (box_result2 (p := 2) (q := 3) rfl _ _ (by rfl) X9 Tryd.underlying27 rfl (by kernel_rfl)) rfl (.inr ⟨HF.out, rfl, B9⟩)
        | false =>
          have hl12 := Lib.hid ((HROW.out.after B).rangeA (i := 1) (by omega))
          go_wp2_with (refine wpList_load_midW rfl 37 _ rfl b _ rfl _ _ hl12.out Tryd.underlying37 rfl (by kernel_rfl) ?_)
          refine (refEnd_any k1 ⟨#[110, 111, 116, 45, 97, 102, 116, 101, 114]⟩ naL (by simp [naL]) (K 1) x3 ((HK.out 1 (by simp)).after B)).mono ?_
          rintro e x4 ⟨rfl, bx4⟩
          replace V := Lib.hid (V.out.after bx4)
          replace X := Lib.hid (X.out.after bx4)
          replace Y := Lib.hid (Y.out.after bx4)
          replace B := B.trans (bx4.mono B.size)
          clear bx4
          clear hl12
          generalize heb2 : endB k1 naL = eb2 at *
          generalize hen2 : endN k1 naL = en2 at *
          replace heb2 := Lib.hid heb2
          replace hen2 := Lib.hid hen2
          cases eb2 with
          | true =>
            have g2 := Y.out.cell 2 rfl
            have g3 := Y.out.cell 3 rfl
            have f2 := Y.out.frozen 2
            have f3 := Y.out.frozen 3
            go_upto_region 16 with fail
            have Y8 : Box ((x4.setCell ⟨yb, 2, none⟩ (.bool true)).setCell ⟨yb, 3, none⟩ (.int .i64 en2)) yb 27 #[.bool false, .int .i64 0, .bool true, .int .i64 en2] := (Y.out.set 2 _).set 3 _
            have V8 : Box ((x4.setCell ⟨yb, 2, none⟩ (.bool true)).setCell ⟨yb, 3, none⟩ (.int .i64 en2)) w.heap.size 37 #[.bool vl, .bool vh, .slice va1 vn1 vc1, .slice va2 vn2 vc2, .slice (some ⟨b, o, none⟩) 3 3] := (V.out.far ⟨yb, 2, none⟩ _ (by show w.heap.size ≠ yb; omega)).far ⟨yb, 3, none⟩ _ (by show w.heap.size ≠ yb; omega)
            have X8 : Box ((x4.setCell ⟨yb, 2, none⟩ (.bool true)).setCell ⟨yb, 3, none⟩ (.int .i64 en2)) (w.heap.size + 1) 27 #[.bool false, .int .i64 0, .bool false, .int .i64 0] := (X.out.far ⟨yb, 2, none⟩ _ (by show w.heap.size + 1 ≠ yb; omega)).far ⟨yb, 3, none⟩ _ (by show w.heap.size + 1 ≠ yb; omega)
            have B8 : Below w.heap.size w ((x4.setCell ⟨yb, 2, none⟩ (.bool true)).setCell ⟨yb, 3, none⟩ (.int .i64 en2)) := (B.setCell (p := ⟨yb, 2, none⟩) (by show w.heap.size ≤ yb; omega) _).setCell (p := ⟨yb, 3, none⟩) (by show w.heap.size ≤ yb; omega) _
            clear g2 g3 f2 f3 V X Y B
            generalize ((x4.setCell ⟨yb, 2, none⟩ (.bool true)).setCell ⟨yb, 3, none⟩ (.int .i64 en2)) = u16_ at *
            have V := Lib.hid V8
            have X := Lib.hid X8
            have Y := Lib.hid Y8
            have B := B8
            clear V8 X8 Y8 B8
            have HF : Hid (refWin (Sx.mk kl kh khi kda (k0 :: k1 :: k2 :: [])) = none) := Lib.hid (by rw [HRW.out]; simp [endTake, heb1.out, hen1.out, heb2.out, hen2.out])
            go_upto_region 18 with fail
            go_wp2_with (refine wpList_store_box (cells := #[.bool false, .int .i64 0, .bool false, .int .i64 0]) rfl 27 _ _ rfl X.out (by rfl) (by rfl) rfl (by kernel_rfl) (by simp [Value.oneCell']) ?_; intro u9 X9 st9)
            have B9 := st9.below w.heap.size w (by omega) B
            exact bodyPost_ret (v := .tuple #[.agg #[.bool false, .int .i64 0, .bool false, .int .i64 0], .bool false]) (box_result2 (p := 2) (q := 3) rfl _ _ (by rfl) X9 Tryd.underlying27 rfl (by kernel_rfl)) rfl (.inr ⟨HF.out, rfl, B9⟩)
          | false =>
            have HF : Hid (refWin (Sx.mk kl kh khi kda (k0 :: k1 :: k2 :: [])) = none) := Lib.hid (by rw [HRW.out]; simp [endTake, heb1.out, hen1.out, heb2.out, hen2.out])
            go_upto_region 18 with fail
            go_wp2_with (refine wpList_store_box (cells := #[.bool false, .int .i64 0, .bool false, .int .i64 0]) rfl 27 _ _ rfl X.out (by rfl) (by rfl) rfl (by kernel_rfl) (by simp [Value.oneCell']) ?_; intro u9 X9 st9)
            have B9 := st9.below w.heap.size w (by omega) B
            exact bodyPost_ret (v := .tuple #[.agg #[.bool false, .int .i64 0, .bool false, .int .i64 0], .bool false]) (box_result2 (p := 2) (q := 3) rfl _ _ (by rfl) X9 Tryd.underlying27 rfl (by kernel_rfl)) rfl (.inr ⟨HF.out, rfl, B9⟩)
      case neg =>
        obtain ⟨cc, rfl⟩ : ∃ cc, vc3 = cc + 4 := ⟨vc3 - 4, by omega⟩
        clear hc
        obtain ⟨b, o, rfl, _⟩ := HROW.out.range (i := 0) (by omega)
        have hyb : w.heap.size + 2 ≤ yb := HYB.out
        have hl11 := Lib.hid ((HROW.out.after B).rangeA (i := 1) (by omega))
        go_wp2_with (refine wpList_load_midW rfl 37 _ rfl b _ rfl _ _ hl11.out Tryd.underlying37 rfl (by kernel_rfl) ?_)
        refine (refEnd_any k1 ⟨#[110, 111, 116, 45, 98, 101, 102, 111, 114, 101]⟩ nbL (by simp [nbL]) (K 1) x2 ((HK.out 1 (by simp)).after B)).mono ?_
        rintro e x3 ⟨rfl, bx3⟩
        replace V := Lib.hid (V.out.after bx3)
        replace X := Lib.hid (X.out.after bx3)
        replace Y := Lib.hid (Y.out.after bx3)
        replace B := B.trans (bx3.mono B.size)
        clear bx3
        clear hl11
        generalize heb1 : endB k1 nbL = eb1 at *
        generalize hen1 : endN k1 nbL = en1 at *
        replace heb1 := Lib.hid heb1
        replace hen1 := Lib.hid hen1
        cases eb1 with
        | true =>
          have g0 := Y.out.cell 0 rfl
          have g1 := Y.out.cell 1 rfl
          have f0 := Y.out.frozen 0
          have f1 := Y.out.frozen 1
          go_upto_region 10 with fail
          have Y8 : Box ((x3.setCell ⟨yb, 0, none⟩ (.bool true)).setCell ⟨yb, 1, none⟩ (.int .i64 en1)) yb 27 #[.bool true, .int .i64 en1, .bool false, .int .i64 0] := (Y.out.set 0 _).set 1 _
          have V8 : Box ((x3.setCell ⟨yb, 0, none⟩ (.bool true)).setCell ⟨yb, 1, none⟩ (.int .i64 en1)) w.heap.size 37 #[.bool vl, .bool vh, .slice va1 vn1 vc1, .slice va2 vn2 vc2, .slice (some ⟨b, o, none⟩) 3 (cc + 4)] := (V.out.far ⟨yb, 0, none⟩ _ (by show w.heap.size ≠ yb; omega)).far ⟨yb, 1, none⟩ _ (by show w.heap.size ≠ yb; omega)
          have X8 : Box ((x3.setCell ⟨yb, 0, none⟩ (.bool true)).setCell ⟨yb, 1, none⟩ (.int .i64 en1)) (w.heap.size + 1) 27 #[.bool false, .int .i64 0, .bool false, .int .i64 0] := (X.out.far ⟨yb, 0, none⟩ _ (by show w.heap.size + 1 ≠ yb; omega)).far ⟨yb, 1, none⟩ _ (by show w.heap.size + 1 ≠ yb; omega)
          have B8 : Below w.heap.size w ((x3.setCell ⟨yb, 0, none⟩ (.bool true)).setCell ⟨yb, 1, none⟩ (.int .i64 en1)) := (B.setCell (p := ⟨yb, 0, none⟩) (by show w.heap.size ≤ yb; omega) _).setCell (p := ⟨yb, 1, none⟩) (by show w.heap.size ≤ yb; omega) _
          clear g0 g1 f0 f1 V X Y B
          generalize ((x3.setCell ⟨yb, 0, none⟩ (.bool true)).setCell ⟨yb, 1, none⟩ (.int .i64 en1)) = u10_ at *
          have V := Lib.hid V8
          have X := Lib.hid X8
          have Y := Lib.hid Y8
          have B := B8
          clear V8 X8 Y8 B8
          have hl22 := Lib.hid ((HROW.out.after B).rangeA (i := 2) (by omega))
          go_wp2_with (refine wpList_load_midW rfl 37 _ rfl b _ rfl _ _ hl22.out Tryd.underlying37 rfl (by kernel_rfl) ?_)
          refine (refEnd_any k2 ⟨#[110, 111, 116, 45, 97, 102, 116, 101, 114]⟩ naL (by simp [naL]) (K 2) u10_ ((HK.out 2 (by simp)).after B)).mono ?_
          rintro e x4 ⟨rfl, bx4⟩
          replace V := Lib.hid (V.out.after bx4)
          replace X := Lib.hid (X.out.after bx4)
          replace Y := Lib.hid (Y.out.after bx4)
          replace B := B.trans (bx4.mono B.size)
          clear bx4
          clear hl22
          generalize heb2 : endB k2 naL = eb2 at *
          generalize hen2 : endN k2 naL = en2 at *
          replace heb2 := Lib.hid heb2
          replace hen2 := Lib.hid hen2
          cases eb2 with
          | true =>
            have g2 := Y.out.cell 2 rfl
            have g3 := Y.out.cell 3 rfl
            have f2 := Y.out.frozen 2
            have f3 := Y.out.frozen 3
            go_upto_region 16 with fail
            have Y8 : Box ((x4.setCell ⟨yb, 2, none⟩ (.bool true)).setCell ⟨yb, 3, none⟩ (.int .i64 en2)) yb 27 #[.bool true, .int .i64 en1, .bool true, .int .i64 en2] := (Y.out.set 2 _).set 3 _
            have V8 : Box ((x4.setCell ⟨yb, 2, none⟩ (.bool true)).setCell ⟨yb, 3, none⟩ (.int .i64 en2)) w.heap.size 37 #[.bool vl, .bool vh, .slice va1 vn1 vc1, .slice va2 vn2 vc2, .slice (some ⟨b, o, none⟩) 3 (cc + 4)] := (V.out.far ⟨yb, 2, none⟩ _ (by show w.heap.size ≠ yb; omega)).far ⟨yb, 3, none⟩ _ (by show w.heap.size ≠ yb; omega)
            have X8 : Box ((x4.setCell ⟨yb, 2, none⟩ (.bool true)).setCell ⟨yb, 3, none⟩ (.int .i64 en2)) (w.heap.size + 1) 27 #[.bool false, .int .i64 0, .bool false, .int .i64 0] := (X.out.far ⟨yb, 2, none⟩ _ (by show w.heap.size + 1 ≠ yb; omega)).far ⟨yb, 3, none⟩ _ (by show w.heap.size + 1 ≠ yb; omega)
            have B8 : Below w.heap.size w ((x4.setCell ⟨yb, 2, none⟩ (.bool true)).setCell ⟨yb, 3, none⟩ (.int .i64 en2)) := (B.setCell (p := ⟨yb, 2, none⟩) (by show w.heap.size ≤ yb; omega) _).setCell (p := ⟨yb, 3, none⟩) (by show w.heap.size ≤ yb; omega) _
            clear g2 g3 f2 f3 V X Y B
            generalize ((x4.setCell ⟨yb, 2, none⟩ (.bool true)).setCell ⟨yb, 3, none⟩ (.int .i64 en2)) = u16_ at *
            have V := Lib.hid V8
            have X := Lib.hid X8
            have Y := Lib.hid Y8
            have B := B8
            clear V8 X8 Y8 B8
            have HF : Hid (refWin (Sx.mk kl kh khi kda (k0 :: k1 :: k2 :: [])) = some ⟨true, en1, true, en2⟩) := Lib.hid (by rw [HRW.out]; simp [endTake, heb1.out, hen1.out, heb2.out, hen2.out])
            go_upto_region 19 with fail
            go_wp2_with first | (refine wpList_load_box rfl 27 _ rfl Y.out (by rfl) Tryd.underlying27 rfl (by kernel_rfl) ?_) | (refine wpList_store_box (cells := #[.bool true, .int .i64 en1, .bool true, .int .i64 en2]) rfl 27 _ _ rfl X.out (by rfl) (by rfl) rfl (by kernel_rfl) (by simp [Value.oneCell']) ?_; intro u9 X9 st9)
            have B9 := st9.below w.heap.size w (by omega) B
            exact bodyPost_ret (v := .tuple #[.agg #[.bool true, .int .i64 en1, .bool true, .int .i64 en2], .bool true]) (box_result2 (p := 2) (q := 3) rfl _ _ (by rfl) X9 Tryd.underlying27 rfl (by kernel_rfl)) rfl (.inl ⟨_, HF.out, rfl, B9⟩)
          | false =>
            have HF : Hid (refWin (Sx.mk kl kh khi kda (k0 :: k1 :: k2 :: [])) = none) := Lib.hid (by rw [HRW.out]; simp [endTake, heb1.out, hen1.out, heb2.out, hen2.out])
            go_upto_region 18 with fail
            go_wp2_with (refine wpList_store_box (cells := #[.bool false, .int .i64 0, .bool false, .int .i64 0]) rfl 27 _ _ rfl X.out (by rfl) (by rfl) rfl (by kernel_rfl) (by simp [Value.oneCell']) ?_; intro u9 X9 st9)
            have B9 := st9.below w.heap.size w (by omega) B
            exact bodyPost_ret (v := .tuple #[.agg #[.bool false, .int .i64 0, .bool false, .int .i64 0], .bool false]) (box_result2 (p := 2) (q := 3) rfl _ _ (by rfl) X9 Tryd.underlying27 rfl (by kernel_rfl)) rfl (.inr ⟨HF.out, rfl, B9⟩)
        | false =>
          have hl12 := Lib.hid ((HROW.out.after B).rangeA (i := 1) (by omega))
          go_wp2_with (refine wpList_load_midW rfl 37 _ rfl b _ rfl _ _ hl12.out Tryd.underlying37 rfl (by kernel_rfl) ?_)
          refine (refEnd_any k1 ⟨#[110, 111, 116, 45, 97, 102, 116, 101, 114]⟩ naL (by simp [naL]) (K 1) x3 ((HK.out 1 (by simp)).after B)).mono ?_
          rintro e x4 ⟨rfl, bx4⟩
          replace V := Lib.hid (V.out.after bx4)
          replace X := Lib.hid (X.out.after bx4)
          replace Y := Lib.hid (Y.out.after bx4)
          replace B := B.trans (bx4.mono B.size)
          clear bx4
          clear hl12
          generalize heb2 : endB k1 naL = eb2 at *
          generalize hen2 : endN k1 naL = en2 at *
          replace heb2 := Lib.hid heb2
          replace hen2 := Lib.hid hen2
          cases eb2 with
          | true =>
            have g2 := Y.out.cell 2 rfl
            have g3 := Y.out.cell 3 rfl
            have f2 := Y.out.frozen 2
            have f3 := Y.out.frozen 3
            go_upto_region 16 with fail
            have Y8 : Box ((x4.setCell ⟨yb, 2, none⟩ (.bool true)).setCell ⟨yb, 3, none⟩ (.int .i64 en2)) yb 27 #[.bool false, .int .i64 0, .bool true, .int .i64 en2] := (Y.out.set 2 _).set 3 _
            have V8 : Box ((x4.setCell ⟨yb, 2, none⟩ (.bool true)).setCell ⟨yb, 3, none⟩ (.int .i64 en2)) w.heap.size 37 #[.bool vl, .bool vh, .slice va1 vn1 vc1, .slice va2 vn2 vc2, .slice (some ⟨b, o, none⟩) 3 (cc + 4)] := (V.out.far ⟨yb, 2, none⟩ _ (by show w.heap.size ≠ yb; omega)).far ⟨yb, 3, none⟩ _ (by show w.heap.size ≠ yb; omega)
            have X8 : Box ((x4.setCell ⟨yb, 2, none⟩ (.bool true)).setCell ⟨yb, 3, none⟩ (.int .i64 en2)) (w.heap.size + 1) 27 #[.bool false, .int .i64 0, .bool false, .int .i64 0] := (X.out.far ⟨yb, 2, none⟩ _ (by show w.heap.size + 1 ≠ yb; omega)).far ⟨yb, 3, none⟩ _ (by show w.heap.size + 1 ≠ yb; omega)
            have B8 : Below w.heap.size w ((x4.setCell ⟨yb, 2, none⟩ (.bool true)).setCell ⟨yb, 3, none⟩ (.int .i64 en2)) := (B.setCell (p := ⟨yb, 2, none⟩) (by show w.heap.size ≤ yb; omega) _).setCell (p := ⟨yb, 3, none⟩) (by show w.heap.size ≤ yb; omega) _
            clear g2 g3 f2 f3 V X Y B
            generalize ((x4.setCell ⟨yb, 2, none⟩ (.bool true)).setCell ⟨yb, 3, none⟩ (.int .i64 en2)) = u16_ at *
            have V := Lib.hid V8
            have X := Lib.hid X8
            have Y := Lib.hid Y8
            have B := B8
            clear V8 X8 Y8 B8
            have HF : Hid (refWin (Sx.mk kl kh khi kda (k0 :: k1 :: k2 :: [])) = none) := Lib.hid (by rw [HRW.out]; simp [endTake, heb1.out, hen1.out, heb2.out, hen2.out])
            go_upto_region 18 with fail
            go_wp2_with (refine wpList_store_box (cells := #[.bool false, .int .i64 0, .bool false, .int .i64 0]) rfl 27 _ _ rfl X.out (by rfl) (by rfl) rfl (by kernel_rfl) (by simp [Value.oneCell']) ?_; intro u9 X9 st9)
            have B9 := st9.below w.heap.size w (by omega) B
            exact bodyPost_ret (v := .tuple #[.agg #[.bool false, .int .i64 0, .bool false, .int .i64 0], .bool false]) (box_result2 (p := 2) (q := 3) rfl _ _ (by rfl) X9 Tryd.underlying27 rfl (by kernel_rfl)) rfl (.inr ⟨HF.out, rfl, B9⟩)
          | false =>
            have HF : Hid (refWin (Sx.mk kl kh khi kda (k0 :: k1 :: k2 :: [])) = none) := Lib.hid (by rw [HRW.out]; simp [endTake, heb1.out, hen1.out, heb2.out, hen2.out])
            go_upto_region 18 with fail
            go_wp2_with (refine wpList_store_box (cells := #[.bool false, .int .i64 0, .bool false, .int .i64 0]) rfl 27 _ _ rfl X.out (by rfl) (by rfl) rfl (by kernel_rfl) (by simp [Value.oneCell']) ?_; intro u9 X9 st9)
            have B9 := st9.below w.heap.size w (by omega) B
            exact bodyPost_ret (v := .tuple #[.agg #[.bool false, .int .i64 0, .bool false, .int .i64 0], .bool false]) (box_result2 (p := 2) (q := 3) rfl _ _ (by rfl) X9 Tryd.underlying27 rfl (by kernel_rfl)) rfl (.inr ⟨HF.out, rfl, B9⟩)
    · skip
      obtain ⟨m, rfl⟩ : ∃ m, vn3 = m + 4 := ⟨vn3 - 4, by have := HN.out; simp at this; omega⟩
      obtain ⟨cc, rfl⟩ : ∃ cc, vc3 = cc + 4 := ⟨vc3 - 4, by omega⟩
      obtain ⟨b, o, rfl, _⟩ := HROW.out.range (i := 0) (by omega)
      have hyb : w.heap.size + 2 ≤ yb := HYB.out
      have hl11 := Lib.hid ((HROW.out.after B).rangeA (i := 1) (by omega))
      go_wp2_with (refine wpList_load_midW rfl 37 _ rfl b _ rfl _ _ hl11.out Tryd.underlying37 rfl (by kernel_rfl) ?_)
      refine (refEnd_any k1 ⟨#[110, 111, 116, 45, 98, 101, 102, 111, 114, 101]⟩ nbL (by simp [nbL]) (K 1) x2 ((HK.out 1 (by simp)).after B)).mono ?_
      rintro e x3 ⟨rfl, bx3⟩
      replace V := Lib.hid (V.out.after bx3)
      replace X := Lib.hid (X.out.after bx3)
      replace Y := Lib.hid (Y.out.after bx3)
      replace B := B.trans (bx3.mono B.size)
      clear bx3
      clear hl11
      generalize heb1 : endB k1 nbL = eb1 at *
      generalize hen1 : endN k1 nbL = en1 at *
      replace heb1 := Lib.hid heb1
      replace hen1 := Lib.hid hen1
      cases eb1 with
      | true =>
        have g0 := Y.out.cell 0 rfl
        have g1 := Y.out.cell 1 rfl
        have f0 := Y.out.frozen 0
        have f1 := Y.out.frozen 1
        go_upto_region 10 with fail
        have Y8 : Box ((x3.setCell ⟨yb, 0, none⟩ (.bool true)).setCell ⟨yb, 1, none⟩ (.int .i64 en1)) yb 27 #[.bool true, .int .i64 en1, .bool false, .int .i64 0] := (Y.out.set 0 _).set 1 _
        have V8 : Box ((x3.setCell ⟨yb, 0, none⟩ (.bool true)).setCell ⟨yb, 1, none⟩ (.int .i64 en1)) w.heap.size 37 #[.bool vl, .bool vh, .slice va1 vn1 vc1, .slice va2 vn2 vc2, .slice (some ⟨b, o, none⟩) (m + 4) (cc + 4)] := (V.out.far ⟨yb, 0, none⟩ _ (by show w.heap.size ≠ yb; omega)).far ⟨yb, 1, none⟩ _ (by show w.heap.size ≠ yb; omega)
        have X8 : Box ((x3.setCell ⟨yb, 0, none⟩ (.bool true)).setCell ⟨yb, 1, none⟩ (.int .i64 en1)) (w.heap.size + 1) 27 #[.bool false, .int .i64 0, .bool false, .int .i64 0] := (X.out.far ⟨yb, 0, none⟩ _ (by show w.heap.size + 1 ≠ yb; omega)).far ⟨yb, 1, none⟩ _ (by show w.heap.size + 1 ≠ yb; omega)
        have B8 : Below w.heap.size w ((x3.setCell ⟨yb, 0, none⟩ (.bool true)).setCell ⟨yb, 1, none⟩ (.int .i64 en1)) := (B.setCell (p := ⟨yb, 0, none⟩) (by show w.heap.size ≤ yb; omega) _).setCell (p := ⟨yb, 1, none⟩) (by show w.heap.size ≤ yb; omega) _
        clear g0 g1 f0 f1 V X Y B
        generalize ((x3.setCell ⟨yb, 0, none⟩ (.bool true)).setCell ⟨yb, 1, none⟩ (.int .i64 en1)) = u10_ at *
        have V := Lib.hid V8
        have X := Lib.hid X8
        have Y := Lib.hid Y8
        have B := B8
        clear V8 X8 Y8 B8
        have hl22 := Lib.hid ((HROW.out.after B).rangeA (i := 2) (by omega))
        go_wp2_with (refine wpList_load_midW rfl 37 _ rfl b _ rfl _ _ hl22.out Tryd.underlying37 rfl (by kernel_rfl) ?_)
        refine (refEnd_any k2 ⟨#[110, 111, 116, 45, 97, 102, 116, 101, 114]⟩ naL (by simp [naL]) (K 2) u10_ ((HK.out 2 (by simp)).after B)).mono ?_
        rintro e x4 ⟨rfl, bx4⟩
        replace V := Lib.hid (V.out.after bx4)
        replace X := Lib.hid (X.out.after bx4)
        replace Y := Lib.hid (Y.out.after bx4)
        replace B := B.trans (bx4.mono B.size)
        clear bx4
        clear hl22
        generalize heb2 : endB k2 naL = eb2 at *
        generalize hen2 : endN k2 naL = en2 at *
        replace heb2 := Lib.hid heb2
        replace hen2 := Lib.hid hen2
        cases eb2 with
        | true =>
          have g2 := Y.out.cell 2 rfl
          have g3 := Y.out.cell 3 rfl
          have f2 := Y.out.frozen 2
          have f3 := Y.out.frozen 3
          go_upto_region 16 with fail
          have Y8 : Box ((x4.setCell ⟨yb, 2, none⟩ (.bool true)).setCell ⟨yb, 3, none⟩ (.int .i64 en2)) yb 27 #[.bool true, .int .i64 en1, .bool true, .int .i64 en2] := (Y.out.set 2 _).set 3 _
          have V8 : Box ((x4.setCell ⟨yb, 2, none⟩ (.bool true)).setCell ⟨yb, 3, none⟩ (.int .i64 en2)) w.heap.size 37 #[.bool vl, .bool vh, .slice va1 vn1 vc1, .slice va2 vn2 vc2, .slice (some ⟨b, o, none⟩) (m + 4) (cc + 4)] := (V.out.far ⟨yb, 2, none⟩ _ (by show w.heap.size ≠ yb; omega)).far ⟨yb, 3, none⟩ _ (by show w.heap.size ≠ yb; omega)
          have X8 : Box ((x4.setCell ⟨yb, 2, none⟩ (.bool true)).setCell ⟨yb, 3, none⟩ (.int .i64 en2)) (w.heap.size + 1) 27 #[.bool false, .int .i64 0, .bool false, .int .i64 0] := (X.out.far ⟨yb, 2, none⟩ _ (by show w.heap.size + 1 ≠ yb; omega)).far ⟨yb, 3, none⟩ _ (by show w.heap.size + 1 ≠ yb; omega)
          have B8 : Below w.heap.size w ((x4.setCell ⟨yb, 2, none⟩ (.bool true)).setCell ⟨yb, 3, none⟩ (.int .i64 en2)) := (B.setCell (p := ⟨yb, 2, none⟩) (by show w.heap.size ≤ yb; omega) _).setCell (p := ⟨yb, 3, none⟩) (by show w.heap.size ≤ yb; omega) _
          clear g2 g3 f2 f3 V X Y B
          generalize ((x4.setCell ⟨yb, 2, none⟩ (.bool true)).setCell ⟨yb, 3, none⟩ (.int .i64 en2)) = u16_ at *
          have V := Lib.hid V8
          have X := Lib.hid X8
          have Y := Lib.hid Y8
          have B := B8
          clear V8 X8 Y8 B8
          have HF : Hid (refWin (Sx.mk kl kh khi kda (k0 :: k1 :: k2 :: k3 :: r)) = none) := Lib.hid (by rw [HRW.out]; simp [endTake, heb1.out, hen1.out, heb2.out, hen2.out])
          go_upto_region 18 with fail
          go_wp2_with (refine wpList_store_box (cells := #[.bool false, .int .i64 0, .bool false, .int .i64 0]) rfl 27 _ _ rfl X.out (by rfl) (by rfl) rfl (by kernel_rfl) (by simp [Value.oneCell']) ?_; intro u9 X9 st9)
          have B9 := st9.below w.heap.size w (by omega) B
          exact bodyPost_ret (v := .tuple #[.agg #[.bool false, .int .i64 0, .bool false, .int .i64 0], .bool false]) (box_result2 (p := 2) (q := 3) rfl _ _ (by rfl) X9 Tryd.underlying27 rfl (by kernel_rfl)) rfl (.inr ⟨HF.out, rfl, B9⟩)
        | false =>
          have HF : Hid (refWin (Sx.mk kl kh khi kda (k0 :: k1 :: k2 :: k3 :: r)) = none) := Lib.hid (by rw [HRW.out]; simp [endTake, heb1.out, hen1.out, heb2.out, hen2.out])
          go_upto_region 18 with fail
          go_wp2_with (refine wpList_store_box (cells := #[.bool false, .int .i64 0, .bool false, .int .i64 0]) rfl 27 _ _ rfl X.out (by rfl) (by rfl) rfl (by kernel_rfl) (by simp [Value.oneCell']) ?_; intro u9 X9 st9)
          have B9 := st9.below w.heap.size w (by omega) B
          exact bodyPost_ret (v := .tuple #[.agg #[.bool false, .int .i64 0, .bool false, .int .i64 0], .bool false]) (box_result2 (p := 2) (q := 3) rfl _ _ (by rfl) X9 Tryd.underlying27 rfl (by kernel_rfl)) rfl (.inr ⟨HF.out, rfl, B9⟩)
      | false =>
        have hl12 := Lib.hid ((HROW.out.after B).rangeA (i := 1) (by omega))
        go_wp2_with (refine wpList_load_midW rfl 37 _ rfl b _ rfl _ _ hl12.out Tryd.underlying37 rfl (by kernel_rfl) ?_)
        refine (refEnd_any k1 ⟨#[110, 111, 116, 45, 97, 102, 116, 101, 114]⟩ naL (by simp [naL]) (K 1) x3 ((HK.out 1 (by simp)).after B)).mono ?_
        rintro e x4 ⟨rfl, bx4⟩
        replace V := Lib.hid (V.out.after bx4)
        replace X := Lib.hid (X.out.after bx4)
        replace Y := Lib.hid (Y.out.after bx4)
        replace B := B.trans (bx4.mono B.size)
        clear bx4
        clear hl12
        generalize heb2 : endB k1 naL = eb2 at *
        generalize hen2 : endN k1 naL = en2 at *
        replace heb2 := Lib.hid heb2
        replace hen2 := Lib.hid hen2
        cases eb2 with
        | true =>
          have g2 := Y.out.cell 2 rfl
          have g3 := Y.out.cell 3 rfl
          have f2 := Y.out.frozen 2
          have f3 := Y.out.frozen 3
          go_upto_region 16 with fail
          have Y8 : Box ((x4.setCell ⟨yb, 2, none⟩ (.bool true)).setCell ⟨yb, 3, none⟩ (.int .i64 en2)) yb 27 #[.bool false, .int .i64 0, .bool true, .int .i64 en2] := (Y.out.set 2 _).set 3 _
          have V8 : Box ((x4.setCell ⟨yb, 2, none⟩ (.bool true)).setCell ⟨yb, 3, none⟩ (.int .i64 en2)) w.heap.size 37 #[.bool vl, .bool vh, .slice va1 vn1 vc1, .slice va2 vn2 vc2, .slice (some ⟨b, o, none⟩) (m + 4) (cc + 4)] := (V.out.far ⟨yb, 2, none⟩ _ (by show w.heap.size ≠ yb; omega)).far ⟨yb, 3, none⟩ _ (by show w.heap.size ≠ yb; omega)
          have X8 : Box ((x4.setCell ⟨yb, 2, none⟩ (.bool true)).setCell ⟨yb, 3, none⟩ (.int .i64 en2)) (w.heap.size + 1) 27 #[.bool false, .int .i64 0, .bool false, .int .i64 0] := (X.out.far ⟨yb, 2, none⟩ _ (by show w.heap.size + 1 ≠ yb; omega)).far ⟨yb, 3, none⟩ _ (by show w.heap.size + 1 ≠ yb; omega)
          have B8 : Below w.heap.size w ((x4.setCell ⟨yb, 2, none⟩ (.bool true)).setCell ⟨yb, 3, none⟩ (.int .i64 en2)) := (B.setCell (p := ⟨yb, 2, none⟩) (by show w.heap.size ≤ yb; omega) _).setCell (p := ⟨yb, 3, none⟩) (by show w.heap.size ≤ yb; omega) _
          clear g2 g3 f2 f3 V X Y B
          generalize ((x4.setCell ⟨yb, 2, none⟩ (.bool true)).setCell ⟨yb, 3, none⟩ (.int .i64 en2)) = u16_ at *
          have V := Lib.hid V8
          have X := Lib.hid X8
          have Y := Lib.hid Y8
          have B := B8
          clear V8 X8 Y8 B8
          have HF : Hid (refWin (Sx.mk kl kh khi kda (k0 :: k1 :: k2 :: k3 :: r)) = none) := Lib.hid (by rw [HRW.out]; simp [endTake, heb1.out, hen1.out, heb2.out, hen2.out])
          go_upto_region 18 with fail
          go_wp2_with (refine wpList_store_box (cells := #[.bool false, .int .i64 0, .bool false, .int .i64 0]) rfl 27 _ _ rfl X.out (by rfl) (by rfl) rfl (by kernel_rfl) (by simp [Value.oneCell']) ?_; intro u9 X9 st9)
          have B9 := st9.below w.heap.size w (by omega) B
          exact bodyPost_ret (v := .tuple #[.agg #[.bool false, .int .i64 0, .bool false, .int .i64 0], .bool false]) (box_result2 (p := 2) (q := 3) rfl _ _ (by rfl) X9 Tryd.underlying27 rfl (by kernel_rfl)) rfl (.inr ⟨HF.out, rfl, B9⟩)
        | false =>
          have HF : Hid (refWin (Sx.mk kl kh khi kda (k0 :: k1 :: k2 :: k3 :: r)) = none) := Lib.hid (by rw [HRW.out]; simp [endTake, heb1.out, hen1.out, heb2.out, hen2.out])
          go_upto_region 18 with fail
          go_wp2_with (refine wpList_store_box (cells := #[.bool false, .int .i64 0, .bool false, .int .i64 0]) rfl 27 _ _ rfl X.out (by rfl) (by rfl) rfl (by kernel_rfl) (by simp [Value.oneCell']) ?_; intro u9 X9 st9)
          have B9 := st9.below w.heap.size w (by omega) B
          exact bodyPost_ret (v := .tuple #[.agg #[.bool false, .int .i64 0, .bool false, .int .i64 0], .bool false]) (box_result2 (p := 2) (q := 3) rfl _ _ (by rfl) X9 Tryd.underlying27 rfl (by kernel_rfl)) rfl (.inr ⟨HF.out, rfl, B9⟩)

end Go.Proofs.YticjhogofoffmaaDoor

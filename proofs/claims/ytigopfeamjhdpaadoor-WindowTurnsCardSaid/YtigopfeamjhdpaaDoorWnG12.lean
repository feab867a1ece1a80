/- The document's windows: end, Get; Of, Ends. A list of canceled ones put: the program's crl.Put, crl.May. A principal of a value: the program's key.Get. A window of a value: the program's window.Get. -/
import Derived.Test.YtigopfeamjhdpaaDoorWnG11
import Derived.Deep.CutRange
import Derived.Deep.Cut
namespace Go.Proofs.YtigopfeamjhdpaaDoor
open Go.RowKit
set_option linter.unusedSimpArgs false
set_option linter.unusedVariables false

theorem endB_n (l h : Bool) (hi da : List UInt8) (ks : List Sx) (w : List UInt8) (h2 : ks.length ≠ 2) : endB (.mk l h hi da ks) w = false := by
  unfold endB
  match ks, h2 with
  | [], _ => simp [Sx.ks]
  | [_], _ => simp [Sx.ks]
  | [_, _], h => exact absurd rfl h
  | _ :: _ :: _ :: _, _ => simp [Sx.ks]
theorem endN_no {k : Sx} {w : List UInt8} (h : endB k w = false) : endN k w = 0 := by unfold endN; rw [h]; rfl
theorem dateV_no {l : List UInt8} (h : dateOk l = false) : dateV l = 0 := by unfold dateV; rw [h]; rfl
def arr (l : List UInt8) : ByteArray := ⟨l.toArray⟩

set_option maxHeartbeats 8000000 in
set_option maxRecDepth 100000 in
theorem refEnd_any (k : Sx) (t : ByteArray) (tl : List UInt8) (htl : t.toList = tl) (v : SV) (w : World) (hr : Rd w v k) : Calls Tryd.prog 26 #[v.val, .string t] w fun e w' => e = .returned (.tuple #[.int .i64 (endN k tl), .bool (endB k tl)]) ∧ Below w.heap.size w w' := by
  obtain ⟨kl, kh, khi, kda, ks⟩ := k
  have HRV := Lib.hid hr
  obtain ⟨e1, e2, _, _, hn, hnc, hcm, K, hrow, hk⟩ := hr.parts
  obtain ⟨vl, vh, va1, vn1, vc1, va2, vn2, vc2, va3, vn3, vc3⟩ := v
  replace hn : vn3 = ks.length := hn
  replace hnc : vn3 ≤ vc3 := hnc
  replace hcm : vc3 ≤ maxLen := hcm
  unfold maxLen at hcm
  replace hk : ∀ i (hi : i < ks.length), Rd w (K i) ks[i] := hk
  replace hrow : RowAt w va3 vn3 vc3 K := hrow
  have HN := Lib.hid hn
  have HK := Lib.hid hk
  have HROW := Lib.hid hrow
  unfold SV.val
  show Calls _ _ #[.agg #[.bool vl, .bool vh, .slice va1 vn1 vc1, .slice va2 vn2 vc2, .slice va3 vn3 vc3], _] _ _
  have B : Below w.heap.size w (w.alloc (.cells #[.bool vl, .bool vh, .slice va1 vn1 vc1, .slice va2 vn2 vc2, .slice va3 vn3 vc3] 27)) := (Below.refl _ _).alloc (Nat.le_refl _) _
  have V : Hid (Box (w.alloc (.cells #[.bool vl, .bool vh, .slice va1 vn1 vc1, .slice va2 vn2 vc2, .slice va3 vn3 vc3] 27)) w.heap.size 27 #[.bool vl, .bool vh, .slice va1 vn1 vc1, .slice va2 vn2 vc2, .slice va3 vn3 vc3]) := Lib.hid (Box.new _ _ _)
  have C1 := Lib.hid (fun w' h => head_any (.mk kl kh khi kda ks) t ⟨vl, vh, va1, vn1, vc1, va2, vn2, vc2, va3, vn3, vc3⟩ w' h)
  rw [headB_eq _ _ tl htl] at C1
  have HE0 := Lib.hid (fun h => endB_n kl kh khi kda ks tl h)
  have HE1 : Hid (headL (.mk kl kh khi kda ks) tl = false → endB (.mk kl kh khi kda ks) tl = false) := Lib.hid (fun h => by unfold endB; rw [h]; rfl)
  have HE2 : Hid (∀ k0 k1, ks = [k0, k1] → headL (.mk kl kh khi kda ks) tl = true → endB (.mk kl kh khi kda ks) tl = (!k1.l && (!k1.h && dateOk k1.da))) := Lib.hid (fun k0 k1 e h => by unfold endB; rw [h, e]; rfl)
  have HE3 : Hid (∀ k0 k1, ks = [k0, k1] → endN (.mk kl kh khi kda ks) tl = if endB (.mk kl kh khi kda ks) tl then dateV k1.da else 0) := Lib.hid (fun k0 k1 e => by unfold endN; rw [e]; rfl)
  have HE4 : Hid (endB (.mk kl kh khi kda ks) tl = false → endN (.mk kl kh khi kda ks) tl = 0) := Lib.hid endN_no
  generalize headL (.mk kl kh khi kda ks) tl = r1 at *
  generalize endB (.mk kl kh khi kda ks) tl = eb at *
  generalize endN (.mk kl kh khi kda ks) tl = en at *
  clear hr e1 e2 hn hk hrow
  go_enter Tryd.func26, Tryd.ntmps26
  go_upto_region 1 with fail
  change Code.wp _ _ _ _ (w.alloc (.cells #[.bool vl, .bool vh, .slice va1 vn1 vc1, .slice va2 vn2 vc2, .slice va3 vn3 vc3] 27))
  generalize (w.alloc (.cells #[.bool vl, .bool vh, .slice va1 vn1 vc1, .slice va2 vn2 vc2, .slice va3 vn3 vc3] 27)) = x0 at *
  go_wp2_with (refine wpList_load_boxG 27 _ rfl V.out (by rfl) Tryd.underlying27 rfl (by kernel_rfl) rfl ?_)
  refine (C1.out x0 (HRV.out.after B)).mono ?_
  rintro e x1 ⟨rfl, bx1⟩
  replace V := Lib.hid (V.out.after bx1)
  replace B := B.trans (bx1.mono B.size)
  clear bx1
  have v4 := V.out.cell 4 rfl
  cases r1 with
  | false =>
    have HF : Hid (eb = false) := Lib.hid (HE1.out rfl)
    have HG := Lib.hid (HE4.out HF.out)
    go_upto_region 2 with fail
    go_wp2_with fail
    go_ret2
    exact ⟨by rw [HF.out, HG.out]; rfl, B⟩
  | true =>
    by_cases h2 : vn3 = 2
    case neg =>
      have hq2 : ((vn3 : Int) != 2) = true := by simp; omega
      have HH := Lib.hid h2
      clear h2
      have HF : Hid (eb = false) := Lib.hid (HE0.out (by have := HN.out; have := HH.out; omega))
      have HG := Lib.hid (HE4.out HF.out)
      go_upto_region 2 with fail
      go_wp2_with fail
      go_ret2
      exact ⟨by rw [HF.out, HG.out]; rfl, B⟩
    case pos =>
      subst h2
      obtain ⟨k0, k1, rfl⟩ : ∃ k0 k1, ks = [k0, k1] := by
        have := HN.out
        rcases ks with _ | ⟨a, _ | ⟨b, _ | ⟨c, r⟩⟩⟩ <;> simp at this
        exact ⟨_, _, rfl⟩
      have R1 : Hid (Rd w (K 1) k1) := Lib.hid (HK.out 1 (by simp))
      obtain ⟨b, o, rfl, hl1⟩ := (HROW.out.after B).range (i := 1) (by omega)
      have c5 := hl1 0 _ rfl
      have c6 := hl1 1 _ rfl
      have c8 := hl1 3 _ rfl
      rw [show o + 1 * 5 + 0 = o + 5 by omega] at c5
      rw [show o + 1 * 5 + 1 = o + 6 by omega] at c6
      rw [show o + 1 * 5 + 3 = o + 8 by omega] at c8
      clear hl1
      obtain ⟨f1, f2, _, hsd, _⟩ := R1.out.parts
      have HSD := Lib.hid hsd
      have HE5 := Lib.hid (HE2.out k0 k1 rfl rfl)
      have HE6 := Lib.hid (HE3.out k0 k1 rfl)
      rw [← f1, ← f2] at HE5
      skip
      clear hsd f1 f2 HE2 HE3
      generalize k1.da = dl at *
      generalize (K 1) = kv1 at *
      obtain ⟨pl, ph, pa1, pn1, pc1, pa2, pn2, pc2, pa3, pn3, pc3⟩ := kv1
      replace c5 : x1.cell? ⟨b, o + 5, none⟩ = some (.bool pl) := c5
      replace c6 : x1.cell? ⟨b, o + 6, none⟩ = some (.bool ph) := c6
      replace c8 : x1.cell? ⟨b, o + 8, none⟩ = some (.slice pa2 pn2 pc2) := c8
      replace HSD : Hid (Sl w pa2 pn2 pc2 dl) := HSD
      replace HE5 : Hid (eb = (!pl && (!ph && dateOk dl))) := HE5
      cases pl with
      | true =>
        have HF : Hid (eb = false) := Lib.hid (by rw [HE5.out]; rfl)
        have HG := Lib.hid (HE4.out HF.out)
        go_upto_region 2 with fail
        go_wp2_with fail
        go_ret2
        exact ⟨by rw [HF.out, HG.out]; rfl, B⟩
      | false =>
        cases ph with
        | true =>
          have HF : Hid (eb = false) := Lib.hid (by rw [HE5.out]; rfl)
          have HG := Lib.hid (HE4.out HF.out)
          go_upto_region 2 with fail
          go_wp2_with fail
          go_ret2
          exact ⟨by rw [HF.out, HG.out]; rfl, B⟩
        | false =>
          go_wp2_with fail
          refine (refGet_any pa2 pn2 pc2 dl x1 (HSD.out.after B) (by have h1 := HSD.out.1; have h2 := HSD.out.2.1; have h3 := HSD.out.2.2.1; unfold maxLen at h3; omega)).mono ?_
          rintro e x2 ⟨rfl, bx2⟩
          replace V := Lib.hid (V.out.after bx2)
          replace B := B.trans (bx2.mono B.size)
          clear bx2
          go_wp2_with fail
          go_ret2
          exact ⟨by rw [HE6.out, HE5.out]; simp only [Bool.not_false, Bool.true_and]; cases hd : dateOk dl <;> simp [dateV_no, hd] <;> rfl, B⟩

/-- what the document's Get of a window answers -/
def RWinP (s : Sx) (w : World) (e : Ending) (w' : World) : Prop :=
  (∃ x : W4, refWin s = some x ∧ e = .returned (.tuple #[.agg #[.bool x.p, .int .i64 x.f, .bool x.q, .int .i64 x.t], .bool true]) ∧ Below w.heap.size w w') ∨
  (refWin s = none ∧ e = .returned (.tuple #[.agg #[.bool false, .int .i64 0, .bool false, .int .i64 0], .bool false]) ∧ Below w.heap.size w w')

set_option maxHeartbeats 8000000 in
set_option maxRecDepth 100000 in
theorem refWinGet_any (s : Sx) (v : SV) (w : World) (hr : Rd w v s) : Calls Tryd.prog 12 #[v.val] w (RWinP s w) := by
  obtain ⟨kl, kh, khi, kda, ks⟩ := s
  have HRV := Lib.hid hr
  obtain ⟨e1, e2, _, _, hn, hnc, hcm, K, hrow, hk⟩ := hr.parts
  obtain ⟨vl, vh, va1, vn1, vc1, va2, vn2, vc2, va3, vn3, vc3⟩ := v
  replace hn : vn3 = ks.length := hn
  replace hnc : vn3 ≤ vc3 := hnc
  replace hcm : vc3 ≤ maxLen := hcm
  unfold maxLen at hcm
  replace hk : ∀ i (hi : i < ks.length), Rd w (K i) ks[i] := hk
  replace hrow : RowAt w va3 vn3 vc3 K := hrow
  have HN := Lib.hid hn
  have HK := Lib.hid hk
  have HROW := Lib.hid hrow
  unfold SV.val
  show Calls _ _ #[.agg #[.bool vl, .bool vh, .slice va1 vn1 vc1, .slice va2 vn2 vc2, .slice va3 vn3 vc3]] _ _
  have B : Below w.heap.size w ((w.alloc (.cells #[.bool vl, .bool vh, .slice va1 vn1 vc1, .slice va2 vn2 vc2, .slice va3 vn3 vc3] 27)).alloc (.cells #[.bool false, .int .i64 0, .bool false, .int .i64 0] 23)) := ((Below.refl _ _).alloc (Nat.le_refl _) _).alloc (by simp) _
  have V : Hid (Box ((w.alloc (.cells #[.bool vl, .bool vh, .slice va1 vn1 vc1, .slice va2 vn2 vc2, .slice va3 vn3 vc3] 27)).alloc (.cells #[.bool false, .int .i64 0, .bool false, .int .i64 0] 23)) w.heap.size 27 #[.bool vl, .bool vh, .slice va1 vn1 vc1, .slice va2 vn2 vc2, .slice va3 vn3 vc3]) := Lib.hid ((Box.new _ _ _).alloc _)
  have X : Hid (Box ((w.alloc (.cells #[.bool vl, .bool vh, .slice va1 vn1 vc1, .slice va2 vn2 vc2, .slice va3 vn3 vc3] 27)).alloc (.cells #[.bool false, .int .i64 0, .bool false, .int .i64 0] 23)) (w.heap.size + 1) 23 #[.bool false, .int .i64 0, .bool false, .int .i64 0]) := Lib.hid (by
    have := Box.new (w.alloc (.cells #[.bool vl, .bool vh, .slice va1 vn1 vc1, .slice va2 vn2 vc2, .slice va3 vn3 vc3] 27)) 23 #[.bool false, .int .i64 0, .bool false, .int .i64 0]
    simpa using this)
  have C1 := Lib.hid (fun w' h => head_any (.mk kl kh khi kda ks) ⟨#[118, 97, 108, 105, 100]⟩ ⟨vl, vh, va1, vn1, vc1, va2, vn2, vc2, va3, vn3, vc3⟩ w' h)
  rw [headB_eq _ _ vaL (by simp [vaL])] at C1
  clear hr e1 e2 hn hk hrow
  go_enter Tryd.func12, Tryd.ntmps12
  go_upto_region 1 with fail
  change Code.wp _ _ _ _ ((w.alloc (.cells #[.bool vl, .bool vh, .slice va1 vn1 vc1, .slice va2 vn2 vc2, .slice va3 vn3 vc3] 27)).alloc (.cells #[.bool false, .int .i64 0, .bool false, .int .i64 0] 23))
  generalize ((w.alloc (.cells #[.bool vl, .bool vh, .slice va1 vn1 vc1, .slice va2 vn2 vc2, .slice va3 vn3 vc3] 27)).alloc (.cells #[.bool false, .int .i64 0, .bool false, .int .i64 0] 23)) = x0 at *
  go_wp2_with (refine wpList_load_box rfl 27 _ rfl V.out (by rfl) Tryd.underlying27 rfl (by kernel_rfl) ?_)
  refine (C1.out x0 (HRV.out.after B)).mono ?_
  rintro e x1 ⟨rfl, bx1⟩
  replace V := Lib.hid (V.out.after bx1)
  replace X := Lib.hid (X.out.after bx1)
  replace B := B.trans (bx1.mono B.size)
  clear bx1
  generalize hr1 : headL (Sx.mk kl kh khi kda ks) vaL = r1 at *
  replace hr1 := Lib.hid hr1
  have v4 := V.out.cell 4 rfl
  cases r1 with
  | false =>
    have HF : Hid (refWin (Sx.mk kl kh khi kda ks) = none) := Lib.hid (by unfold refWin; rw [hr1.out]; rfl)
    go_upto_region 2 with fail
    go_wp2_with (refine wpList_store_box (cells := #[.bool false, .int .i64 0, .bool false, .int .i64 0]) rfl 23 _ _ rfl X.out (by rfl) (by rfl) rfl (by kernel_rfl) (by simp [Value.oneCell']) ?_; intro u9 X9 st9)
    have B9 := st9.below w.heap.size w (by omega) B
    exact bodyPost_ret (v := .tuple #[.agg #[.bool false, .int .i64 0, .bool false, .int .i64 0], .bool false]) (box_result2 (p := 2) (q := 3) rfl _ _ (by rfl) X9 Tryd.underlying23 rfl (by kernel_rfl)) rfl (.inr ⟨HF.out, rfl, B9⟩)
  | true =>
    go_upto_region 4 with (refine wpList_store_box (cells := #[.bool false, .int .i64 0, .bool false, .int .i64 0]) rfl 23 _ _ rfl (Box.new _ _ _) (by rfl) (by rfl) rfl (by kernel_rfl) (by simp [Value.oneCell']) ?_; intro u9 X9 st9)
    have HYB : Hid (w.heap.size + 2 ≤ x1.heap.size) := Lib.hid (by have := X.out.lt; omega)
    have bs2 : Below x1.heap.size x1 u9 := st9.below x1.heap.size x1 (Nat.le_refl _) ((Below.refl _ _).alloc (Nat.le_refl _) _)
    have Y := Lib.hid X9
    replace V := Lib.hid (V.out.after bs2)
    replace X := Lib.hid (X.out.after bs2)
    replace B := B.trans (bs2.mono B.size)
    clear bs2 st9 X9
    generalize u9 = x2 at *
    skip
    have v4 := V.out.cell 4 rfl
    obtain ⟨k0, r, rfl⟩ : ∃ k0 r, ks = k0 :: r := by
      rcases ks with _ | ⟨a, r⟩
      · have := hr1.out; simp [headL, Sx.ks] at this
      · exact ⟨_, _, rfl⟩
    have HRW : Hid (refWin (Sx.mk kl kh khi kda (k0 :: r)) = (match (endTake (endTake r nbL).2.2 naL).2.2 with | [] => some ⟨(endTake r nbL).1, (endTake r nbL).2.1, (endTake (endTake r nbL).2.2 naL).1, (endTake (endTake r nbL).2.2 naL).2.1⟩ | _ => none)) := Lib.hid (by unfold refWin; rw [hr1.out, if_pos rfl]; rfl)
    clear hr1
    generalize x1.heap.size = yb at *
    rcases r with _ | ⟨k1, _ | ⟨k2, _ | ⟨k3, r⟩⟩⟩
    · skip
      obtain rfl : vn3 = 1 := by have := HN.out; simpa using this
      by_cases hc : vc3 = 1
      case pos =>
        subst hc
        obtain ⟨b, o, rfl, _⟩ := HROW.out.range (i := 0) (by omega)
        have hyb : w.heap.size + 2 ≤ yb := HYB.out
        have HF : Hid (refWin (Sx.mk kl kh khi kda (k0 :: [])) = some ⟨false, 0, false, 0⟩) := Lib.hid (by rw [HRW.out]; rfl)
        go_upto_region 19 with fail
        go_wp2_with first | (refine wpList_load_box rfl 23 _ rfl Y.out (by rfl) Tryd.underlying23 rfl (by kernel_rfl) ?_) | (refine wpList_store_box (cells := #[.bool false, .int .i64 0, .bool false, .int .i64 0]) rfl 23 _ _ rfl X.out (by rfl) (by rfl) rfl (by kernel_rfl) (by simp [Value.oneCell']) ?_; intro u9 X9 st9)
        have B9 := st9.below w.heap.size w (by omega) B
        exact bodyPost_ret (v := .tuple #[.agg #[.bool false, .int .i64 0, .bool false, .int .i64 0], .bool true]) (box_result2 (p := 2) (q := 3) rfl _ _ (by rfl) X9 Tryd.underlying23 rfl (by kernel_rfl)) rfl (.inl ⟨_, HF.out, rfl, B9⟩)
      case neg =>
        obtain ⟨cc, rfl⟩ : ∃ cc, vc3 = cc + 2 := ⟨vc3 - 2, by omega⟩
        clear hc
        obtain ⟨b, o, rfl, _⟩ := HROW.out.range (i := 0) (by omega)
        have hyb : w.heap.size + 2 ≤ yb := HYB.out
        have HF : Hid (refWin (Sx.mk kl kh khi kda (k0 :: [])) = some ⟨false, 0, false, 0⟩) := Lib.hid (by rw [HRW.out]; rfl)
        go_upto_region 19 with fail
        go_wp2_with first | (refine wpList_load_box rfl 23 _ rfl Y.out (by rfl) Tryd.underlying23 rfl (by kernel_rfl) ?_) | (refine wpList_store_box (cells := #[.bool false, .int .i64 0, .bool false, .int .i64 0]) rfl 23 _ _ rfl X.out (by rfl) (by rfl) rfl (by kernel_rfl) (by simp [Value.oneCell']) ?_; intro u9 X9 st9)
        have B9 := st9.below w.heap.size w (by omega) B
        exact bodyPost_ret (v := .tuple #[.agg #[.bool false, .int .i64 0, .bool false, .int .i64 0], .bool true]) (box_result2 (p := 2) (q := 3) rfl _ _ (by rfl) X9 Tryd.underlying23 rfl (by kernel_rfl)) rfl (.inl ⟨_, HF.out, rfl, B9⟩)
    · skip
      obtain rfl : vn3 = 2 := by have := HN.out; simpa using this
      by_cases hc : vc3 = 2
      case pos =>
        subst hc
        obtain ⟨b, o, rfl, _⟩ := HROW.out.range (i := 0) (by omega)
        have hyb : w.heap.size + 2 ≤ yb := HYB.out
        have hl11 := Lib.hid ((HROW.out.after B).rangeA (i := 1) (by omega))
        go_wp2_with (refine wpList_load_midW rfl 27 _ rfl b _ rfl _ _ hl11.out Tryd.underlying27 rfl (by kernel_rfl) ?_)
        refine (refEnd_any k1 ⟨#[110, 111, 116, 45, 98, 101, 102, 111, 114, 101]⟩ nbL (by simp [nbL]) (K 1) x2 ((HK.out 1 (by simp)).after B)).mono ?_
        rintro e x3 ⟨rfl, bx3⟩
        replace V := Lib.hid (V.out.after bx3)
        replace X := Lib.hid (X.out.after bx3)
        replace Y := Lib.hid (Y.out.after bx3)
        replace B := B.trans (bx3.mono B.size)
        clear bx3
        clear hl11
        generalize heb1 : endB k1 nbL = eb1 at *
        generalize hen1 : endN k1 nbL = en1 at *
        replace heb1 := Lib.hid heb1
        replace hen1 := Lib.hid hen1
        cases eb1 with
        | true =>
          have g0 := Y.out.cell 0 rfl
          have g1 := Y.out.cell 1 rfl
          have f0 := Y.out.frozen 0
          have f1 := Y.out.frozen 1
          go_upto_region 10 with fail
          have Y8 : Box ((x3.setCell ⟨yb, 0, none⟩ (.bool true)).setCell ⟨yb, 1, none⟩ (.int .i64 en1)) yb 23 #[.bool true, .int .i64 en1, .bool false, .int .i64 0] := (Y.out.set 0 _).set 1 _
          have V8 : Box ((x3.setCell ⟨yb, 0, none⟩ (.bool true)).setCell ⟨yb, 1, none⟩ (.int .i64 en1)) w.heap.size 27 #[.bool vl, .bool vh, .slice va1 vn1 vc1, .slice va2 vn2 vc2, .slice (some ⟨b, o, none⟩) 2 2] := (V.out.far ⟨yb, 0, none⟩ _ (by show w.heap.size ≠ yb; omega)).far ⟨yb, 1, none⟩ _ (by show w.heap.size ≠ yb; omega)
          have X8 : Box ((x3.setCell ⟨yb, 0, none⟩ (.bool true)).setCell ⟨yb, 1, none⟩ (.int .i64 en1)) (w.heap.size + 1) 23 #[.bool false, .int .i64 0, .bool false, .int .i64 0] := (X.out.far ⟨yb, 0, none⟩ _ (by show w.heap.size + 1 ≠ yb; omega)).far ⟨yb, 1, none⟩ _ (by show w.heap.size + 1 ≠ yb; omega)
          have B8 : Below w.heap.size w ((x3.setCell ⟨yb, 0, none⟩ (.bool true)).setCell ⟨yb, 1, none⟩ (.int .i64 en1)) := (B.setCell (p := ⟨yb, 0, none⟩) (by show w.heap.size ≤ yb; omega) _).setCell (p := ⟨yb, 1, none⟩) (by show w.heap.size ≤ yb; omega) _
          clear g0 g1 f0 f1 V X Y B
          generalize ((x3.setCell ⟨yb, 0, none⟩ (.bool true)).setCell ⟨yb, 1, none⟩ (.int .i64 en1)) = u10_ at *
          have V := Lib.hid V8
          have X := Lib.hid X8
          have Y := Lib.hid Y8
          have B := B8
          clear V8 X8 Y8 B8
          have HF : Hid (refWin (Sx.mk kl kh khi kda (k0 :: k1 :: [])) = some ⟨true, en1, false, 0⟩) := Lib.hid (by rw [HRW.out]; simp [endTake, heb1.out, hen1.out])
          go_upto_region 19 with fail
          go_wp2_with first | (refine wpList_load_box rfl 23 _ rfl Y.out (by rfl) Tryd.underlying23 rfl (by kernel_rfl) ?_) | (refine wpList_store_box (cells := #[.bool true, .int .i64 en1, .bool false, .int .i64 0]) rfl 23 _ _ rfl X.out (by rfl) (by rfl) rfl (by kernel_rfl) (by simp [Value.oneCell']) ?_; intro u9 X9 st9)
          have B9 := st9.below w.heap.size w (by omega) B
          exact bodyPost_ret (v := .tuple #[.agg #[.bool true, .int .i64 en1, .bool false, .int .i64 0], .bool true]) (box_result2 (p := 2) (q := 3) rfl _ _ (by rfl) X9 Tryd.underlying23 rfl (by kernel_rfl)) rfl (.inl ⟨_, HF.out, rfl, B9⟩)
        | false =>
          have hl12 := Lib.hid ((HROW.out.after B).rangeA (i := 1) (by omega))
          go_wp2_with (refine wpList_load_midW rfl 27 _ rfl b _ rfl _ _ hl12.out Tryd.underlying27 rfl (by kernel_rfl) ?_)
          refine (refEnd_any k1 ⟨#[110, 111, 116, 45, 97, 102, 116, 101, 114]⟩ naL (by simp [naL]) (K 1) x3 ((HK.out 1 (by simp)).after B)).mono ?_
          rintro e x4 ⟨rfl, bx4⟩
          replace V := Lib.hid (V.out.after bx4)
          replace X := Lib.hid (X.out.after bx4)
          replace Y := Lib.hid (Y.out.after bx4)
          replace B := B.trans (bx4.mono B.size)
          clear bx4
          clear hl12
          generalize heb2 : endB k1 naL = eb2 at *
          generalize hen2 : endN k1 naL = en2 at *
          replace heb2 := Lib.hid heb2
          replace hen2 := Lib.hid hen2
          cases eb2 with
          | true =>
            have g2 := Y.out.cell 2 rfl
            have g3 := Y.out.cell 3 rfl
            have f2 := Y.out.frozen 2
            have f3 := Y.out.frozen 3
            go_upto_region 16 with fail
            have Y8 : Box ((x4.setCell ⟨yb, 2, none⟩ (.bool true)).setCell ⟨yb, 3, none⟩ (.int .i64 en2)) yb 23 #[.bool false, .int .i64 0, .bool true, .int .i64 en2] := (Y.out.set 2 _).set 3 _
            have V8 : Box ((x4.setCell ⟨yb, 2, none⟩ (.bool true)).setCell ⟨yb, 3, none⟩ (.int .i64 en2)) w.heap.size 27 #[.bool vl, .bool vh, .slice va1 vn1 vc1, .slice va2 vn2 vc2, .slice (some ⟨b, o, none⟩) 2 2] := (V.out.far ⟨yb, 2, none⟩ _ (by show w.heap.size ≠ yb; omega)).far ⟨yb, 3, none⟩ _ (by show w.heap.size ≠ yb; omega)
            have X8 : Box ((x4.setCell ⟨yb, 2, none⟩ (.bool true)).setCell ⟨yb, 3, none⟩ (.int .i64 en2)) (w.heap.size + 1) 23 #[.bool false, .int .i64 0, .bool false, .int .i64 0] := (X.out.far ⟨yb, 2, none⟩ _ (by show w.heap.size + 1 ≠ yb; omega)).far ⟨yb, 3, none⟩ _ (by show w.heap.size + 1 ≠ yb; omega)
            have B8 : Below w.heap.size w ((x4.setCell ⟨yb, 2, none⟩ (.bool true)).setCell ⟨yb, 3, none⟩ (.int .i64 en2)) := (B.setCell (p := ⟨yb, 2, none⟩) (by show w.heap.size ≤ yb; omega) _).setCell (p := ⟨yb, 3, none⟩) (by show w.heap.size ≤ yb; omega) _
            clear g2 g3 f2 f3 V X Y B
            generalize ((x4.setCell ⟨yb, 2, none⟩ (.bool true)).setCell ⟨yb, 3, none⟩ (.int .i64 en2)) = u16_ at *
            have V := Lib.hid V8
            have X := Lib.hid X8
            have Y := Lib.hid Y8
            have B := B8
            clear V8 X8 Y8 B8
            have HF : Hid (refWin (Sx.mk kl kh khi kda (k0 :: k1 :: [])) = some ⟨false, 0, true, en2⟩) := Lib.hid (by rw [HRW.out]; simp [endTake, heb1.out, hen1.out, heb2.out, hen2.out])
            go_upto_region 19 with fail
            go_wp2_with first | (refine wpList_load_box rfl 23 _ rfl Y.out (by rfl) Tryd.underlying23 rfl (by kernel_rfl) ?_) | (refine wpList_store_box (cells := #[.bool false, .int .i64 0, .bool true, .int .i64 en2]) rfl 23 _ _ rfl X.out (by rfl) (by rfl) rfl (by kernel_rfl) (by simp [Value.oneCell']) ?_; intro u9 X9 st9)
            have B9 := st9.below w.heap.size w (by omega) B
            exact bodyPost_ret (v := .tuple #[.agg #[.bool false, .int .i64 0, .bool true, .int .i64 en2], .bool true]) (box_result2 (p := 2) (q := 3) rfl _ _ (by rfl) X9 Tryd.underlying23 rfl (by kernel_rfl)) rfl (.inl ⟨_, HF.out, rfl, B9⟩)
          | false =>
            have HF : Hid (refWin (Sx.mk kl kh khi kda (k0 :: k1 :: [])) = none) := Lib.hid (by rw [HRW.out]; simp [endTake, heb1.out, hen1.out, heb2.out, hen2.out])
            go_upto_region 18 with fail
            go_wp2_with (refine wpList_store_box (cells := #[.bool false, .int .i64 0, .bool false, .int .i64 0]) rfl 23 _ _ rfl X.out (by rfl) (by rfl) rfl (by kernel_rfl) (by simp [Value.oneCell']) ?_; intro u9 X9 st9)
            have B9 := st9.below w.heap.size w (by omega) B
            exact bodyPost_ret (v := .tuple #[.agg #[.bool false, .int .i64 0, .bool false, .int .i64 0], .bool false]) (box_result2 (p := 2) (q := 3) rfl _ _ (by rfl) X9 Tryd.underlying23 rfl (by kernel_rfl)) rfl (.inr ⟨HF.out, rfl, B9⟩)
      case neg =>
        obtain ⟨cc, rfl⟩ : ∃ cc, vc3 = cc + 3 := ⟨vc3 - 3, by omega⟩
        clear hc
        obtain ⟨b, o, rfl, _⟩ := HROW.out.range (i := 0) (by omega)
        have hyb : w.heap.size + 2 ≤ yb := HYB.out
        have hl11 := Lib.hid ((HROW.out.after B).rangeA (i := 1) (by omega))
        go_wp2_with (refine wpList_load_midW rfl 27 _ rfl b _ rfl _ _ hl11.out Tryd.underlying27 rfl (by kernel_rfl) ?_)
        refine (refEnd_any k1 ⟨#[110, 111, 116, 45, 98, 101, 102, 111, 114, 101]⟩ nbL (by simp [nbL]) (K 1) x2 ((HK.out 1 (by simp)).after B)).mono ?_
        rintro e x3 ⟨rfl, bx3⟩
        replace V := Lib.hid (V.out.after bx3)
        replace X := Lib.hid (X.out.after bx3)
        replace Y := Lib.hid (Y.out.after bx3)
        replace B := B.trans (bx3.mono B.size)
        clear bx3
        clear hl11
        generalize heb1 : endB k1 nbL = eb1 at *
        generalize hen1 : endN k1 nbL = en1 at *
        replace heb1 := Lib.hid heb1
        replace hen1 := Lib.hid hen1
        cases eb1 with
        | true =>
          have g0 := Y.out.cell 0 rfl
          have g1 := Y.out.cell 1 rfl
          have f0 := Y.out.frozen 0
          have f1 := Y.out.frozen 1
          go_upto_region 10 with fail
          have Y8 : Box ((x3.setCell ⟨yb, 0, none⟩ (.bool true)).setCell ⟨yb, 1, none⟩ (.int .i64 en1)) yb 23 #[.bool true, .int .i64 en1, .bool false, .int .i64 0] := (Y.out.set 0 _).set 1 _
          have V8 : Box ((x3.setCell ⟨yb, 0, none⟩ (.bool true)).setCell ⟨yb, 1, none⟩ (.int .i64 en1)) w.heap.size 27 #[.bool vl, .bool vh, .slice va1 vn1 vc1, .slice va2 vn2 vc2, .slice (some ⟨b, o, none⟩) 2 (cc + 3)] := (V.out.far ⟨yb, 0, none⟩ _ (by show w.heap.size ≠ yb; omega)).far ⟨yb, 1, none⟩ _ (by show w.heap.size ≠ yb; omega)
          have X8 : Box ((x3.setCell ⟨yb, 0, none⟩ (.bool true)).setCell ⟨yb, 1, none⟩ (.int .i64 en1)) (w.heap.size + 1) 23 #[.bool false, .int .i64 0, .bool false, .int .i64 0] := (X.out.far ⟨yb, 0, none⟩ _ (by show w.heap.size + 1 ≠ yb; omega)).far ⟨yb, 1, none⟩ _ (by show w.heap.size + 1 ≠ yb; omega)
          have B8 : Below w.heap.size w ((x3.setCell ⟨yb, 0, none⟩ (.bool true)).setCell ⟨yb, 1, none⟩ (.int .i64 en1)) := (B.setCell (p := ⟨yb, 0, none⟩) (by show w.heap.size ≤ yb; omega) _).setCell (p := ⟨yb, 1, none⟩) (by show w.heap.size ≤ yb; omega) _
          clear g0 g1 f0 f1 V X Y B
          generalize ((x3.setCell ⟨yb, 0, none⟩ (.bool true)).setCell ⟨yb, 1, none⟩ (.int .i64 en1)) = u10_ at *
          have V := Lib.hid V8
          have X := Lib.hid X8
          have Y := Lib.hid Y8
          have B := B8
          clear V8 X8 Y8 B8
          have HF : Hid (refWin (Sx.mk kl kh khi kda (k0 :: k1 :: [])) = some ⟨true, en1, false, 0⟩) := Lib.hid (by rw [HRW.out]; simp [endTake, heb1.out, hen1.out])
          go_upto_region 19 with fail
          go_wp2_with first | (refine wpList_load_box rfl 23 _ rfl Y.out (by rfl) Tryd.underlying23 rfl (by kernel_rfl) ?_) | (refine wpList_store_box (cells := #[.bool true, .int .i64 en1, .bool false, .int .i64 0]) rfl 23 _ _ rfl X.out (by rfl) (by rfl) rfl (by kernel_rfl) (by simp [Value.oneCell']) ?_; intro u9 X9 st9)
          have B9 := st9.below w.heap.size w (by omega) B
          exact bodyPost_ret (v := .tuple #[.agg #[.bool true, .int .i64 en1, .bool false, .int .i64 0], .bool true]) (box_result2 (p := 2) (q := 3) rfl _ _ (by rfl) X9 Tryd.underlying23 rfl (by kernel_rfl)) rfl (.inl ⟨_, HF.out, rfl, B9⟩)
        | false =>
          have hl12 := Lib.hid ((HROW.out.after B).rangeA (i := 1) (by omega))
          go_wp2_with (refine wpList_load_midW rfl 27 _ rfl b _ rfl _ _ hl12.out Tryd.underlying27 rfl (by kernel_rfl) ?_)
          refine (refEnd_any k1 ⟨#[110, 111, 116, 45, 97, 102, 116, 101, 114]⟩ naL (by simp [naL]) (K 1) x3 ((HK.out 1 (by simp)).after B)).mono ?_
          rintro e x4 ⟨rfl, bx4⟩
          replace V := Lib.hid (V.out.after bx4)
          replace X := Lib.hid (X.out.after bx4)
          replace Y := Lib.hid (Y.out.after bx4)
          replace B := B.trans (bx4.mono B.size)
          clear bx4
          clear hl12
          generalize heb2 : endB k1 naL = eb2 at *
          generalize hen2 : endN k1 naL = en2 at *
          replace heb2 := Lib.hid heb2
          replace hen2 := Lib.hid hen2
          cases eb2 with
          | true =>
            have g2 := Y.out.cell 2 rfl
            have g3 := Y.out.cell 3 rfl
            have f2 := Y.out.frozen 2
            have f3 := Y.out.frozen 3
            go_upto_region 16 with fail
            have Y8 : Box ((x4.setCell ⟨yb, 2, none⟩ (.bool true)).setCell ⟨yb, 3, none⟩ (.int .i64 en2)) yb 23 #[.bool false, .int .i64 0, .bool true, .int .i64 en2] := (Y.out.set 2 _).set 3 _
            have V8 : Box ((x4.setCell ⟨yb, 2, none⟩ (.bool true)).setCell ⟨yb, 3, none⟩ (.int .i64 en2)) w.heap.size 27 #[.bool vl, .bool vh, .slice va1 vn1 vc1, .slice va2 vn2 vc2, .slice (some ⟨b, o, none⟩) 2 (cc + 3)] := (V.out.far ⟨yb, 2, none⟩ _ (by show w.heap.size ≠ yb; omega)).far ⟨yb, 3, none⟩ _ (by show w.heap.size ≠ yb; omega)
            have X8 : Box ((x4.setCell ⟨yb, 2, none⟩ (.bool true)).setCell ⟨yb, 3, none⟩ (.int .i64 en2)) (w.heap.size + 1) 23 #[.bool false, .int .i64 0, .bool false, .int .i64 0] := (X.out.far ⟨yb, 2, none⟩ _ (by show w.heap.size + 1 ≠ yb; omega)).far ⟨yb, 3, none⟩ _ (by show w.heap.size + 1 ≠ yb; omega)
            have B8 : Below w.heap.size w ((x4.setCell ⟨yb, 2, none⟩ (.bool true)).setCell ⟨yb, 3, none⟩ (.int .i64 en2)) := (B.setCell (p := ⟨yb, 2, none⟩) (by show w.heap.size ≤ yb; omega) _).setCell (p := ⟨yb, 3, none⟩) (by show w.heap.size ≤ yb; omega) _
            clear g2 g3 f2 f3 V X Y B
            generalize ((x4.setCell ⟨yb, 2, none⟩ (.bool true)).setCell ⟨yb, 3, none⟩ (.int .i64 en2)) = u16_ at *
            have V := Lib.hid V8
            have X := Lib.hid X8
            have Y := Lib.hid Y8
            have B := B8
            clear V8 X8 Y8 B8
            have HF : Hid (refWin (Sx.mk kl kh khi kda (k0 :: k1 :: [])) = some ⟨false, 0, true, en2⟩) := Lib.hid (by rw [HRW.out]; simp [endTake, heb1.out, hen1.out, heb2.out, hen2.out])
            go_upto_region 19 with fail
            go_wp2_with first | (refine wpList_load_box rfl 23 _ rfl Y.out (by rfl) Tryd.underlying23 rfl (by kernel_rfl) ?_) | (refine wpList_store_box (cells := #[.bool false, .int .i64 0, .bool true, .int .i64 en2]) rfl 23 _ _ rfl X.out (by rfl) (by rfl) rfl (by kernel_rfl) (by simp [Value.oneCell']) ?_; intro u9 X9 st9)
            have B9 := st9.below w.heap.size w (by omega) B
            exact bodyPost_ret (v := .tuple #[.agg #[.bool false, .int .i64 0, .bool true, .int .i64 en2], .bool true]) (box_result2 (p := 2) (q := 3) rfl _ _ (by rfl) X9 Tryd.underlying23 rfl (by kernel_rfl)) rfl (.inl ⟨_, HF.out, rfl, B9⟩)
          | false =>
            have HF : Hid (refWin (Sx.mk kl kh khi kda (k0 :: k1 :: [])) = none) := Lib.hid (by rw [HRW.out]; simp [endTake, heb1.out, hen1.out, heb2.out, hen2.out])
            go_upto_region 18 with fail
            go_wp2_with (refine wpList_store_box (cells := #[.bool false, .int .i64 0, .bool false, .int .i64 0]) rfl 23 _ _ rfl X.out (by rfl) (by rfl) rfl (by kernel_rfl) (by simp [Value.oneCell']) ?_; intro u9 X9 st9)
            have B9 := st9.below w.heap.size w (by omega) B
            exact bodyPost_ret (v := .tuple #[.agg #[.bool false, .int .i64 0, .bool false, .int .i64 0], .bool false]) (box_result2 (p := 2) (q := 3) rfl _ _ (by rfl) X9 Tryd.underlying23 rfl (by kernel_rfl)) rfl (.inr ⟨HF.out, rfl, B9⟩)
    · skip
      obtain rfl : vn3 = 3 := by have := HN.out; simpa using this
      by_cases hc : vc3 = 3
      case pos =>
        subst hc
        obtain ⟨b, o, rfl, _⟩ := HROW.out.range (i := 0) (by omega)
        have hyb : w.heap.size + 2 ≤ yb := HYB.out
        have hl11 := Lib.hid ((HROW.out.after B).rangeA (i := 1) (by omega))
        go_wp2_with (refine wpList_load_midW rfl 27 _ rfl b _ rfl _ _ hl11.out Tryd.underlying27 rfl (by kernel_rfl) ?_)
        refine (refEnd_any k1 ⟨#[110, 111, 116, 45, 98, 101, 102, 111, 114, 101]⟩ nbL (by simp [nbL]) (K 1) x2 ((HK.out 1 (by simp)).after B)).mono ?_
        rintro e x3 ⟨rfl, bx3⟩
        replace V := Lib.hid (V.out.after bx3)
        replace X := Lib.hid (X.out.after bx3)
        replace Y := Lib.hid (Y.out.after bx3)
        replace B := B.trans (bx3.mono B.size)
        clear bx3
        clear hl11
        generalize heb1 : endB k1 nbL = eb1 at *
        generalize hen1 : endN k1 nbL = en1 at *
        replace heb1 := Lib.hid heb1
        replace hen1 := Lib.hid hen1
        cases eb1 with
        | true =>
          have g0 := Y.out.cell 0 rfl
          have g1 := Y.out.cell 1 rfl
          have f0 := Y.out.frozen 0
          have f1 := Y.out.frozen 1
          go_upto_region 10 with fail
          have Y8 : Box ((x3.setCell ⟨yb, 0, none⟩ (.bool true)).setCell ⟨yb, 1, none⟩ (.int .i64 en1)) yb 23 #[.bool true, .int .i64 en1, .bool false, .int .i64 0] := (Y.out.set 0 _).set 1 _
          have V8 : Box ((x3.setCell ⟨yb, 0, none⟩ (.bool true)).setCell ⟨yb, 1, none⟩ (.int .i64 en1)) w.heap.size 27 #[.bool vl, .bool vh, .slice va1 vn1 vc1, .slice va2 vn2 vc2, .slice (some ⟨b, o, none⟩) 3 3] := (V.out.far ⟨yb, 0, none⟩ _ (by show w.heap.size ≠ yb; omega)).far ⟨yb, 1, none⟩ _ (by show w.heap.size ≠ yb; omega)
          have X8 : Box ((x3.setCell ⟨yb, 0, none⟩ (.bool true)).setCell ⟨yb, 1, none⟩ (.int .i64 en1)) (w.heap.size + 1) 23 #[.bool false, .int .i64 0, .bool false, .int .i64 0] := (X.out.far ⟨yb, 0, none⟩ _ (by show w.heap.size + 1 ≠ yb; omega)).far ⟨yb, 1, none⟩ _ (by show w.heap.size + 1 ≠ yb; omega)
          have B8 : Below w.heap.size w ((x3.setCell ⟨yb, 0, none⟩ (.bool true)).setCell ⟨yb, 1, none⟩ (.int .i64 en1)) := (B.setCell (p := ⟨yb, 0, none⟩) (by show w.heap.size ≤ yb; omega) _).setCell (p := ⟨yb, 1, none⟩) (by show w.heap.size ≤ yb; omega) _
          clear g0 g1 f0 f1 V X Y B
          generalize ((x3.setCell ⟨yb, 0, none⟩ (.bool true)).setCell ⟨yb, 1, none⟩ (.int .i64 en1)) = u10_ at *
          have V := Lib.hid V8
          have X := Lib.hid X8
          have Y := Lib.hid Y8
          have B := B8
          clear V8 X8 Y8 B8
          have hl22 := Lib.hid ((HROW.out.after B).rangeA (i := 2) (by omega))
          go_wp2_with (refine wpList_load_midW rfl 27 _ rfl b _ rfl _ _ hl22.out Tryd.underlying27 rfl (by kernel_rfl) ?_)
          refine (refEnd_any k2 ⟨#[110, 111, 116, 45, 97, 102, 116, 101, 114]⟩ naL (by simp [naL]) (K 2) u10_ ((HK.out 2 (by simp)).after B)).mono ?_
          rintro e x4 ⟨rfl, bx4⟩
          replace V := Lib.hid (V.out.after bx4)
          replace X := Lib.hid (X.out.after bx4)
          replace Y := Lib.hid (Y.out.after bx4)
          replace B := B.trans (bx4.mono B.size)
          clear bx4
          clear hl22
          generalize heb2 : endB k2 naL = eb2 at *
          generalize hen2 : endN k2 naL = en2 at *
          replace heb2 := Lib.hid heb2
          replace hen2 := Lib.hid hen2
          cases eb2 with
          | true =>
            have g2 := Y.out.cell 2 rfl
            have g3 := Y.out.cell 3 rfl
            have f2 := Y.out.frozen 2
            have f3 := Y.out.frozen 3
            go_upto_region 16 with fail
            have Y8 : Box ((x4.setCell ⟨yb, 2, none⟩ (.bool true)).setCell ⟨yb, 3, none⟩ (.int .i64 en2)) yb 23 #[.bool true, .int .i64 en1, .bool true, .int .i64 en2] := (Y.out.set 2 _).set 3 _
            have V8 : Box ((x4.setCell ⟨yb, 2, none⟩ (.bool true)).setCell ⟨yb, 3, none⟩ (.int .i64 en2)) w.heap.size 27 #[.bool vl, .bool vh, .slice va1 vn1 vc1, .slice va2 vn2 vc2, .slice (some ⟨b, o, none⟩) 3 3] := (V.out.far ⟨yb, 2, none⟩ _ (by show w.heap.size ≠ yb; omega)).far ⟨yb, 3, none⟩ _ (by show w.heap.size ≠ yb; omega)
            have X8 : Box ((x4.setCell ⟨yb, 2, none⟩ (.bool true)).setCell ⟨yb, 3, none⟩ (.int .i64 en2)) (w.heap.size + 1) 23 #[.bool false, .int .i64 0, .bool false, .int .i64 0] := (X.out.far ⟨yb, 2, none⟩ _ (by show w.heap.size + 1 ≠ yb; omega)).far ⟨yb, 3, none⟩ _ (by show w.heap.size + 1 ≠ yb; omega)
            have B8 : Below w.heap.size w ((x4.setCell ⟨yb, 2, none⟩ (.bool true)).setCell ⟨yb, 3, none⟩ (.int .i64 en2)) := (B.setCell (p := ⟨yb, 2, none⟩) (by show w.heap.size ≤ yb; omega) _).setCell (p := ⟨yb, 3, none⟩) (by show w.heap.size ≤ yb; omega) _
            clear g2 g3 f2 f3 V X Y B
            generalize ((x4.setCell ⟨yb, 2, none⟩ (.bool true)).setCell ⟨yb, 3, none⟩ (.int .i64 en2)) = u16_ at *
            have V := Lib.hid V8
            have X := Lib.hid X8
            have Y := Lib.hid Y8
            have B := B8
            clear V8 X8 Y8 B8
            have HF : Hid (refWin (Sx.mk kl kh khi kda (k0 :: k1 :: k2 :: [])) = some ⟨true, en1, true, en2⟩) := Lib.hid (by rw [HRW.out]; simp [endTake, heb1.out, hen1.out, heb2.out, hen2.out])
            go_upto_region 19 with fail
            go_wp2_with first | (refine wpList_load_box rfl 23 _ rfl Y.out (by rfl) Tryd.underlying23 rfl (by kernel_rfl) ?_) | (refine wpList_store_box (cells := #[.bool true, .int .i64 en1, .bool true, .int .i64 en2]) rfl 23 _ _ rfl X.out (by rfl) (by rfl) rfl (by kernel_rfl) (by simp [Value.oneCell']) ?_; intro u9 X9 st9)
            have B9 := st9.below w.heap.size w (by omega) B
            exact bodyPost_ret (v := .tuple #[.agg #[.bool true, .int .i64 en1, .bool true, .int .i64 en2], .bool true]) (box_result2 (p := 2) (q := 3) rfl _ _ (by rfl) X9 Tryd.underlying23 rfl (by kernel_rfl)) rfl (.inl ⟨_, HF.out, rfl, B9⟩)
          | false =>
            have HF : Hid (refWin (Sx.mk kl kh khi kda (k0 :: k1 :: k2 :: [])) = none) := Lib.hid (by rw [HRW.out]; simp [endTake, heb1.out, hen1.out, heb2.out, hen2.out])
            go_upto_region 18 with fail
            go_wp2_with (refine wpList_store_box (cells := #[.bool false, .int .i64 0, .bool false, .int .i64 0]) rfl 23 _ _ rfl X.out (by rfl) (by rfl) rfl (by kernel_rfl) (by simp [Value.oneCell']) ?_; intro u9 X9 st9)
            have B9 := st9.below w.heap.size w (by omega) B
            exact bodyPost_ret (v := .tuple #[.agg #[.bool false, .int .i64 0, .bool false, .int .i64 0], .bool false]) (box_result2 (p := 2) (q := 3) rfl _ _ (by rfl) X9 Tryd.underlying23 rfl (by kernel_rfl)) rfl (.inr ⟨HF.out, rfl, B9⟩)
        | false =>
          have hl12 := Lib.hid ((HROW.out.after B).rangeA (i := 1) (by omega))
          go_wp2_with (refine wpList_load_midW rfl 27 _ rfl b _ rfl _ _ hl12.out Tryd.underlying27 rfl (by kernel_rfl) ?_)
          refine (refEnd_any k1 ⟨#[110, 111, 116, 45, 97, 102, 116, 101, 114]⟩ naL (by simp [naL]) (K 1) x3 ((HK.out 1 (by simp)).after B)).mono ?_
          rintro e x4 ⟨rfl, bx4⟩
          replace V := Lib.hid (V.out.after bx4)
          replace X := Lib.hid (X.out.after bx4)
          replace Y := Lib.hid (Y.out.after bx4)
          replace B := B.trans (bx4.mono B.size)
          clear bx4
          clear hl12
          generalize heb2 : endB k1 naL = eb2 at *
          generalize hen2 : endN k1 naL = en2 at *
          replace heb2 := Lib.hid heb2
          replace hen2 := Lib.hid hen2
          cases eb2 with
          | true =>
            have g2 := Y.out.cell 2 rfl
            have g3 := Y.out.cell 3 rfl
            have f2 := Y.out.frozen 2
            have f3 := Y.out.frozen 3
            go_upto_region 16 with fail
            have Y8 : Box ((x4.setCell ⟨yb, 2, none⟩ (.bool true)).setCell ⟨yb, 3, none⟩ (.int .i64 en2)) yb 23 #[.bool false, .int .i64 0, .bool true, .int .i64 en2] := (Y.out.set 2 _).set 3 _
            have V8 : Box ((x4.setCell ⟨yb, 2, none⟩ (.bool true)).setCell ⟨yb, 3, none⟩ (.int .i64 en2)) w.heap.size 27 #[.bool vl, .bool vh, .slice va1 vn1 vc1, .slice va2 vn2 vc2, .slice (some ⟨b, o, none⟩) 3 3] := (V.out.far ⟨yb, 2, none⟩ _ (by show w.heap.size ≠ yb; omega)).far ⟨yb, 3, none⟩ _ (by show w.heap.size ≠ yb; omega)
            have X8 : Box ((x4.setCell ⟨yb, 2, none⟩ (.bool true)).setCell ⟨yb, 3, none⟩ (.int .i64 en2)) (w.heap.size + 1) 23 #[.bool false, .int .i64 0, .bool false, .int .i64 0] := (X.out.far ⟨yb, 2, none⟩ _ (by show w.heap.size + 1 ≠ yb; omega)).far ⟨yb, 3, none⟩ _ (by show w.heap.size + 1 ≠ yb; omega)
            have B8 : Below w.heap.size w ((x4.setCell ⟨yb, 2, none⟩ (.bool true)).setCell ⟨yb, 3, none⟩ (.int .i64 en2)) := (B.setCell (p := ⟨yb, 2, none⟩) (by show w.heap.size ≤ yb; omega) _).setCell (p := ⟨yb, 3, none⟩) (by show w.heap.size ≤ yb; omega) _
            clear g2 g3 f2 f3 V X Y B
            generalize ((x4.setCell ⟨yb, 2, none⟩ (.bool true)).setCell ⟨yb, 3, none⟩ (.int .i64 en2)) = u16_ at *
            have V := Lib.hid V8
            have X := Lib.hid X8
            have Y := Lib.hid Y8
            have B := B8
            clear V8 X8 Y8 B8
            have HF : Hid (refWin (Sx.mk kl kh khi kda (k0 :: k1 :: k2 :: [])) = none) := Lib.hid (by rw [HRW.out]; simp [endTake, heb1.out, hen1.out, heb2.out, hen2.out])
            go_upto_region 18 with fail
            go_wp2_with (refine wpList_store_box (cells := #[.bool false, .int .i64 0, .bool false, .int .i64 0]) rfl 23 _ _ rfl X.out (by rfl) (by rfl) rfl (by kernel_rfl) (by simp [Value.oneCell']) ?_; intro u9 X9 st9)
            have B9 := st9.below w.heap.size w (by omega) B
            exact bodyPost_ret (v := .tuple #[.agg #[.bool false, .int .i64 0, .bool false, .int .i64 0], .bool false]) (box_result2 (p := 2) (q := 3) rfl _ _ (by rfl) X9 Tryd.underlying23 rfl (by kernel_rfl)) rfl (.inr ⟨HF.out, rfl, B9⟩)
          | false =>
            have HF : Hid (refWin (Sx.mk kl kh khi kda (k0 :: k1 :: k2 :: [])) = none) := Lib.hid (by rw [HRW.out]; simp [endTake, heb1.out, hen1.out, heb2.out, hen2.out])
            go_upto_region 18 with fail
            go_wp2_with (refine wpList_store_box (cells := #[.bool false, .int .i64 0, .bool false, .int .i64 0]) rfl 23 _ _ rfl X.out (by rfl) (by rfl) rfl (by kernel_rfl) (by simp [Value.oneCell']) ?_; intro u9 X9 st9)
            have B9 := st9.below w.heap.size w (by omega) B
            exact bodyPost_ret (v := .tuple #[.agg #[.bool false, .int .i64 0, .bool false, .int .i64 0], .bool false]) (box_result2 (p := 2) (q := 3) rfl _ _ (by rfl) X9 Tryd.underlying23 rfl (by kernel_rfl)) rfl (.inr ⟨HF.out, rfl, B9⟩)
      case neg =>
        obtain ⟨cc, rfl⟩ : ∃ cc, vc3 = cc + 4 := ⟨vc3 - 4, by omega⟩
        clear hc
        obtain ⟨b, o, rfl, _⟩ := HROW.out.range (i := 0) (by omega)
        have hyb : w.heap.size + 2 ≤ yb := HYB.out
        have hl11 := Lib.hid ((HROW.out.after B).rangeA (i := 1) (by omega))
        go_wp2_with (refine wpList_load_midW rfl 27 _ rfl b _ rfl _ _ hl11.out Tryd.underlying27 rfl (by kernel_rfl) ?_)
        refine (refEnd_any k1 ⟨#[110, 111, 116, 45, 98, 101, 102, 111, 114, 101]⟩ nbL (by simp [nbL]) (K 1) x2 ((HK.out 1 (by simp)).after B)).mono ?_
        rintro e x3 ⟨rfl, bx3⟩
        replace V := Lib.hid (V.out.after bx3)
        replace X := Lib.hid (X.out.after bx3)
        replace Y := Lib.hid (Y.out.after bx3)
        replace B := B.trans (bx3.mono B.size)
        clear bx3
        clear hl11
        generalize heb1 : endB k1 nbL = eb1 at *
        generalize hen1 : endN k1 nbL = en1 at *
        replace heb1 := Lib.hid heb1
        replace hen1 := Lib.hid hen1
        cases eb1 with
        | true =>
          have g0 := Y.out.cell 0 rfl
          have g1 := Y.out.cell 1 rfl
          have f0 := Y.out.frozen 0
          have f1 := Y.out.frozen 1
          go_upto_region 10 with fail
          have Y8 : Box ((x3.setCell ⟨yb, 0, none⟩ (.bool true)).setCell ⟨yb, 1, none⟩ (.int .i64 en1)) yb 23 #[.bool true, .int .i64 en1, .bool false, .int .i64 0] := (Y.out.set 0 _).set 1 _
          have V8 : Box ((x3.setCell ⟨yb, 0, none⟩ (.bool true)).setCell ⟨yb, 1, none⟩ (.int .i64 en1)) w.heap.size 27 #[.bool vl, .bool vh, .slice va1 vn1 vc1, .slice va2 vn2 vc2, .slice (some ⟨b, o, none⟩) 3 (cc + 4)] := (V.out.far ⟨yb, 0, none⟩ _ (by show w.heap.size ≠ yb; omega)).far ⟨yb, 1, none⟩ _ (by show w.heap.size ≠ yb; omega)
          have X8 : Box ((x3.setCell ⟨yb, 0, none⟩ (.bool true)).setCell ⟨yb, 1, none⟩ (.int .i64 en1)) (w.heap.size + 1) 23 #[.bool false, .int .i64 0, .bool false, .int .i64 0] := (X.out.far ⟨yb, 0, none⟩ _ (by show w.heap.size + 1 ≠ yb; omega)).far ⟨yb, 1, none⟩ _ (by show w.heap.size + 1 ≠ yb; omega)
          have B8 : Below w.heap.size w ((x3.setCell ⟨yb, 0, none⟩ (.bool true)).setCell ⟨yb, 1, none⟩ (.int .i64 en1)) := (B.setCell (p := ⟨yb, 0, none⟩) (by show w.heap.size ≤ yb; omega) _).setCell (p := ⟨yb, 1, none⟩) (by show w.heap.size ≤ yb; omega) _
          clear g0 g1 f0 f1 V X Y B
          generalize ((x3.setCell ⟨yb, 0, none⟩ (.bool true)).setCell ⟨yb, 1, none⟩ (.int .i64 en1)) = u10_ at *
          have V := Lib.hid V8
          have X := Lib.hid X8
          have Y := Lib.hid Y8
          have B := B8
          clear V8 X8 Y8 B8
          have hl22 := Lib.hid ((HROW.out.after B).rangeA (i := 2) (by omega))
          go_wp2_with (refine wpList_load_midW rfl 27 _ rfl b _ rfl _ _ hl22.out Tryd.underlying27 rfl (by kernel_rfl) ?_)
          refine (refEnd_any k2 ⟨#[110, 111, 116, 45, 97, 102, 116, 101, 114]⟩ naL (by simp [naL]) (K 2) u10_ ((HK.out 2 (by simp)).after B)).mono ?_
          rintro e x4 ⟨rfl, bx4⟩
          replace V := Lib.hid (V.out.after bx4)
          replace X := Lib.hid (X.out.after bx4)
          replace Y := Lib.hid (Y.out.after bx4)
          replace B := B.trans (bx4.mono B.size)
          clear bx4
          clear hl22
          generalize heb2 : endB k2 naL = eb2 at *
          generalize hen2 : endN k2 naL = en2 at *
          replace heb2 := Lib.hid heb2
          replace hen2 := Lib.hid hen2
          cases eb2 with
          | true =>
            have g2 := Y.out.cell 2 rfl
            have g3 := Y.out.cell 3 rfl
            have f2 := Y.out.frozen 2
            have f3 := Y.out.frozen 3
            go_upto_region 16 with fail
            have Y8 : Box ((x4.setCell ⟨yb, 2, none⟩ (.bool true)).setCell ⟨yb, 3, none⟩ (.int .i64 en2)) yb 23 #[.bool true, .int .i64 en1, .bool true, .int .i64 en2] := (Y.out.set 2 _).set 3 _
            have V8 : Box ((x4.setCell ⟨yb, 2, none⟩ (.bool true)).setCell ⟨yb, 3, none⟩ (.int .i64 en2)) w.heap.size 27 #[.bool vl, .bool vh, .slice va1 vn1 vc1, .slice va2 vn2 vc2, .slice (some ⟨b, o, none⟩) 3 (cc + 4)] := (V.out.far ⟨yb, 2, none⟩ _ (by show w.heap.size ≠ yb; omega)).far ⟨yb, 3, none⟩ _ (by show w.heap.size ≠ yb; omega)
            have X8 : Box ((x4.setCell ⟨yb, 2, none⟩ (.bool true)).setCell ⟨yb, 3, none⟩ (.int .i64 en2)) (w.heap.size + 1) 23 #[.bool false, .int .i64 0, .bool false, .int .i64 0] := (X.out.far ⟨yb, 2, none⟩ _ (by show w.heap.size + 1 ≠ yb; omega)).far ⟨yb, 3, none⟩ _ (by show w.heap.size + 1 ≠ yb; omega)
            have B8 : Below w.heap.size w ((x4.setCell ⟨yb, 2, none⟩ (.bool true)).setCell ⟨yb, 3, none⟩ (.int .i64 en2)) := (B.setCell (p := ⟨yb, 2, none⟩) (by show w.heap.size ≤ yb; omega) _).setCell (p := ⟨yb, 3, none⟩) (by show w.heap.size ≤ yb; omega) _
            clear g2 g3 f2 f3 V X Y B
            generalize ((x4.setCell ⟨yb, 2, none⟩ (.bool true)).setCell ⟨yb, 3, none⟩ (.int .i64 en2)) = u16_ at *
            have V := Lib.hid V8
            have X := Lib.hid X8
            have Y := Lib.hid Y8
            have B := B8
            clear V8 X8 Y8 B8
            have HF : Hid (refWin (Sx.mk kl kh khi kda (k0 :: k1 :: k2 :: [])) = some ⟨true, en1, true, en2⟩) := Lib.hid (by rw [HRW.out]; simp [endTake, heb1.out, hen1.out, heb2.out, hen2.out])
            go_upto_region 19 with fail
            go_wp2_with first | (refine wpList_load_box rfl 23 _ rfl Y.out (by rfl) Tryd.underlying23 rfl (by kernel_rfl) ?_) | (refine wpList_store_box (cells := #[.bool true, .int .i64 en1, .bool true, .int .i64 en2]) rfl 23 _ _ rfl X.out (by rfl) (by rfl) rfl (by kernel_rfl) (by simp [Value.oneCell']) ?_; intro u9 X9 st9)
            have B9 := st9.below w.heap.size w (by omega) B
            exact bodyPost_ret (v := .tuple #[.agg #[.bool true, .int .i64 en1, .bool true, .int .i64 en2], .bool true]) (box_result2 (p := 2) (q := 3) rfl _ _ (by rfl) X9 Tryd.underlying23 rfl (by kernel_rfl)) rfl (.inl ⟨_, HF.out, rfl, B9⟩)
          | false =>
            have HF : Hid (refWin (Sx.mk kl kh khi kda (k0 :: k1 :: k2 :: [])) = none) := Lib.hid (by rw [HRW.out]; simp [endTake, heb1.out, hen1.out, heb2.out, hen2.out])
            go_upto_region 18 with fail
            go_wp2_with (refine wpList_store_box (cells := #[.bool false, .int .i64 0, .bool false, .int .i64 0]) rfl 23 _ _ rfl X.out (by rfl) (by rfl) rfl (by kernel_rfl) (by simp [Value.oneCell']) ?_; intro u9 X9 st9)
            have B9 := st9.below w.heap.size w (by omega) B
            exact bodyPost_ret (v := .tuple #[.agg #[.bool false, .int .i64 0, .bool false, .int .i64 0], .bool false]) (box_result2 (p := 2) (q := 3) rfl _ _ (by rfl) X9 Tryd.underlying23 rfl (by kernel_rfl)) rfl (.inr ⟨HF.out, rfl, B9⟩)
        | false =>
          have hl12 := Lib.hid ((HROW.out.after B).rangeA (i := 1) (by omega))
          go_wp2_with (refine wpList_load_midW rfl 27 _ rfl b _ rfl _ _ hl12.out Tryd.underlying27 rfl (by kernel_rfl) ?_)
          refine (refEnd_any k1 ⟨#[110, 111, 116, 45, 97, 102, 116, 101, 114]⟩ naL (by simp [naL]) (K 1) x3 ((HK.out 1 (by simp)).after B)).mono ?_
          rintro e x4 ⟨rfl, bx4⟩
          replace V := Lib.hid (V.out.after bx4)
          replace X := Lib.hid (X.out.after bx4)
          replace Y := Lib.hid (Y.out.after bx4)
          replace B := B.trans (bx4.mono B.size)
          clear bx4
          clear hl12
          generalize heb2 : endB k1 naL = eb2 at *
          generalize hen2 : endN k1 naL = en2 at *
          replace heb2 := Lib.hid heb2
          replace hen2 := Lib.hid hen2
          cases eb2 with
          | true =>
            have g2 := Y.out.cell 2 rfl
            have g3 := Y.out.cell 3 rfl
            have f2 := Y.out.frozen 2
            have f3 := Y.out.frozen 3
            go_upto_region 16 with fail
            have Y8 : Box ((x4.setCell ⟨yb, 2, none⟩ (.bool true)).setCell ⟨yb, 3, none⟩ (.int .i64 en2)) yb 23 #[.bool false, .int .i64 0, .bool true, .int .i64 en2] := (Y.out.set 2 _).set 3 _
            have V8 : Box ((x4.setCell ⟨yb, 2, none⟩ (.bool true)).setCell ⟨yb, 3, none⟩ (.int .i64 en2)) w.heap.size 27 #[.bool vl, .bool vh, .slice va1 vn1 vc1, .slice va2 vn2 vc2, .slice (some ⟨b, o, none⟩) 3 (cc + 4)] := (V.out.far ⟨yb, 2, none⟩ _ (by show w.heap.size ≠ yb; omega)).far ⟨yb, 3, none⟩ _ (by show w.heap.size ≠ yb; omega)
            have X8 : Box ((x4.setCell ⟨yb, 2, none⟩ (.bool true)).setCell ⟨yb, 3, none⟩ (.int .i64 en2)) (w.heap.size + 1) 23 #[.bool false, .int .i64 0, .bool false, .int .i64 0] := (X.out.far ⟨yb, 2, none⟩ _ (by show w.heap.size + 1 ≠ yb; omega)).far ⟨yb, 3, none⟩ _ (by show w.heap.size + 1 ≠ yb; omega)
            have B8 : Below w.heap.size w ((x4.setCell ⟨yb, 2, none⟩ (.bool true)).setCell ⟨yb, 3, none⟩ (.int .i64 en2)) := (B.setCell (p := ⟨yb, 2, none⟩) (by show w.heap.size ≤ yb; omega) _).setCell (p := ⟨yb, 3, none⟩) (by show w.heap.size ≤ yb; omega) _
            clear g2 g3 f2 f3 V X Y B
            generalize ((x4.setCell ⟨yb, 2, none⟩ (.bool true)).setCell ⟨yb, 3, none⟩ (.int .i64 en2)) = u16_ at *
            have V := Lib.hid V8
            have X := Lib.hid X8
            have Y := Lib.hid Y8
            have B := B8
            clear V8 X8 Y8 B8
            have HF : Hid (refWin (Sx.mk kl kh khi kda (k0 :: k1 :: k2 :: [])) = none) := Lib.hid (by rw [HRW.out]; simp [endTake, heb1.out, hen1.out, heb2.out, hen2.out])
            go_upto_region 18 with fail
            go_wp2_with (refine wpList_store_box (cells := #[.bool false, .int .i64 0, .bool false, .int .i64 0]) rfl 23 _ _ rfl X.out (by rfl) (by rfl) rfl (by kernel_rfl) (by simp [Value.oneCell']) ?_; intro u9 X9 st9)
            have B9 := st9.below w.heap.size w (by omega) B
            exact bodyPost_ret (v := .tuple #[.agg #[.bool false, .int .i64 0, .bool false, .int .i64 0], .bool false]) (box_result2 (p := 2) (q := 3) rfl _ _ (by rfl) X9 Tryd.underlying23 rfl (by kernel_rfl)) rfl (.inr ⟨HF.out, rfl, B9⟩)
          | false =>
            have HF : Hid (refWin (Sx.mk kl kh khi kda (k0 :: k1 :: k2 :: [])) = none) := Lib.hid (by rw [HRW.out]; simp [endTake, heb1.out, hen1.out, heb2.out, hen2.out])
            go_upto_region 18 with fail
            go_wp2_with (refine wpList_store_box (cells := #[.bool false, .int .i64 0, .bool false, .int .i64 0]) rfl 23 _ _ rfl X.out (by rfl) (by rfl) rfl (by kernel_rfl) (by simp [Value.oneCell']) ?_; intro u9 X9 st9)
            have B9 := st9.below w.heap.size w (by omega) B
            exact bodyPost_ret (v := .tuple #[.agg #[.bool false, .int .i64 0, .bool false, .int .i64 0], .bool false]) (box_result2 (p := 2) (q := 3) rfl _ _ (by rfl) X9 Tryd.underlying23 rfl (by kernel_rfl)) rfl (.inr ⟨HF.out, rfl, B9⟩)
    · skip
      obtain ⟨m, rfl⟩ : ∃ m, vn3 = m + 4 := ⟨vn3 - 4, by have := HN.out; simp at this; omega⟩
      obtain ⟨cc, rfl⟩ : ∃ cc, vc3 = cc + 4 := ⟨vc3 - 4, by omega⟩
      obtain ⟨b, o, rfl, _⟩ := HROW.out.range (i := 0) (by omega)
      have hyb : w.heap.size + 2 ≤ yb := HYB.out
      have hl11 := Lib.hid ((HROW.out.after B).rangeA (i := 1) (by omega))
      go_wp2_with (refine wpList_load_midW rfl 27 _ rfl b _ rfl _ _ hl11.out Tryd.underlying27 rfl (by kernel_rfl) ?_)
      refine (refEnd_any k1 ⟨#[110, 111, 116, 45, 98, 101, 102, 111, 114, 101]⟩ nbL (by simp [nbL]) (K 1) x2 ((HK.out 1 (by simp)).after B)).mono ?_
      rintro e x3 ⟨rfl, bx3⟩
      replace V := Lib.hid (V.out.after bx3)
      replace X := Lib.hid (X.out.after bx3)
      replace Y := Lib.hid (Y.out.after bx3)
      replace B := B.trans (bx3.mono B.size)
      clear bx3
      clear hl11
      generalize heb1 : endB k1 nbL = eb1 at *
      generalize hen1 : endN k1 nbL = en1 at *
      replace heb1 := Lib.hid heb1
      replace hen1 := Lib.hid hen1
      cases eb1 with
      | true =>
        have g0 := Y.out.cell 0 rfl
        have g1 := Y.out.cell 1 rfl
        have f0 := Y.out.frozen 0
        have f1 := Y.out.frozen 1
        go_upto_region 10 with fail
        have Y8 : Box ((x3.setCell ⟨yb, 0, none⟩ (.bool true)).setCell ⟨yb, 1, none⟩ (.int .i64 en1)) yb 23 #[.bool true, .int .i64 en1, .bool false, .int .i64 0] := (Y.out.set 0 _).set 1 _
        have V8 : Box ((x3.setCell ⟨yb, 0, none⟩ (.bool true)).setCell ⟨yb, 1, none⟩ (.int .i64 en1)) w.heap.size 27 #[.bool vl, .bool vh, .slice va1 vn1 vc1, .slice va2 vn2 vc2, .slice (some ⟨b, o, none⟩) (m + 4) (cc + 4)] := (V.out.far ⟨yb, 0, none⟩ _ (by show w.heap.size ≠ yb; omega)).far ⟨yb, 1, none⟩ _ (by show w.heap.size ≠ yb; omega)
        have X8 : Box ((x3.setCell ⟨yb, 0, none⟩ (.bool true)).setCell ⟨yb, 1, none⟩ (.int .i64 en1)) (w.heap.size + 1) 23 #[.bool false, .int .i64 0, .bool false, .int .i64 0] := (X.out.far ⟨yb, 0, none⟩ _ (by show w.heap.size + 1 ≠ yb; omega)).far ⟨yb, 1, none⟩ _ (by show w.heap.size + 1 ≠ yb; omega)
        have B8 : Below w.heap.size w ((x3.setCell ⟨yb, 0, none⟩ (.bool true)).setCell ⟨yb, 1, none⟩ (.int .i64 en1)) := (B.setCell (p := ⟨yb, 0, none⟩) (by show w.heap.size ≤ yb; omega) _).setCell (p := ⟨yb, 1, none⟩) (by show w.heap.size ≤ yb; omega) _
        clear g0 g1 f0 f1 V X Y B
        generalize ((x3.setCell ⟨yb, 0, none⟩ (.bool true)).setCell ⟨yb, 1, none⟩ (.int .i64 en1)) = u10_ at *
        have V := Lib.hid V8
        have X := Lib.hid X8
        have Y := Lib.hid Y8
        have B := B8
        clear V8 X8 Y8 B8
        have hl22 := Lib.hid ((HROW.out.after B).rangeA (i := 2) (by omega))
        go_wp2_with (refine wpList_load_midW rfl 27 _ rfl b _ rfl _ _ hl22.out Tryd.underlying27 rfl (by kernel_rfl) ?_)
        refine (refEnd_any k2 ⟨#[110, 111, 116, 45, 97, 102, 116, 101, 114]⟩ naL (by simp [naL]) (K 2) u10_ ((HK.out 2 (by simp)).after B)).mono ?_
        rintro e x4 ⟨rfl, bx4⟩
        replace V := Lib.hid (V.out.after bx4)
        replace X := Lib.hid (X.out.after bx4)
        replace Y := Lib.hid (Y.out.after bx4)
        replace B := B.trans (bx4.mono B.size)
        clear bx4
        clear hl22
        generalize heb2 : endB k2 naL = eb2 at *
        generalize hen2 : endN k2 naL = en2 at *
        replace heb2 := Lib.hid heb2
        replace hen2 := Lib.hid hen2
        cases eb2 with
        | true =>
          have g2 := Y.out.cell 2 rfl
          have g3 := Y.out.cell 3 rfl
          have f2 := Y.out.frozen 2
          have f3 := Y.out.frozen 3
          go_upto_region 16 with fail
          have Y8 : Box ((x4.setCell ⟨yb, 2, none⟩ (.bool true)).setCell ⟨yb, 3, none⟩ (.int .i64 en2)) yb 23 #[.bool true, .int .i64 en1, .bool true, .int .i64 en2] := (Y.out.set 2 _).set 3 _
          have V8 : Box ((x4.setCell ⟨yb, 2, none⟩ (.bool true)).setCell ⟨yb, 3, none⟩ (.int .i64 en2)) w.heap.size 27 #[.bool vl, .bool vh, .slice va1 vn1 vc1, .slice va2 vn2 vc2, .slice (some ⟨b, o, none⟩) (m + 4) (cc + 4)] := (V.out.far ⟨yb, 2, none⟩ _ (by show w.heap.size ≠ yb; omega)).far ⟨yb, 3, none⟩ _ (by show w.heap.size ≠ yb; omega)
          have X8 : Box ((x4.setCell ⟨yb, 2, none⟩ (.bool true)).setCell ⟨yb, 3, none⟩ (.int .i64 en2)) (w.heap.size + 1) 23 #[.bool false, .int .i64 0, .bool false, .int .i64 0] := (X.out.far ⟨yb, 2, none⟩ _ (by show w.heap.size + 1 ≠ yb; omega)).far ⟨yb, 3, none⟩ _ (by show w.heap.size + 1 ≠ yb; omega)
          have B8 : Below w.heap.size w ((x4.setCell ⟨yb, 2, none⟩ (.bool true)).setCell ⟨yb, 3, none⟩ (.int .i64 en2)) := (B.setCell (p := ⟨yb, 2, none⟩) (by show w.heap.size ≤ yb; omega) _).setCell (p := ⟨yb, 3, none⟩) (by show w.heap.size ≤ yb; omega) _
          clear g2 g3 f2 f3 V X Y B
          generalize ((x4.setCell ⟨yb, 2, none⟩ (.bool true)).setCell ⟨yb, 3, none⟩ (.int .i64 en2)) = u16_ at *
          have V := Lib.hid V8
          have X := Lib.hid X8
          have Y := Lib.hid Y8
          have B := B8
          clear V8 X8 Y8 B8
          have HF : Hid (refWin (Sx.mk kl kh khi kda (k0 :: k1 :: k2 :: k3 :: r)) = none) := Lib.hid (by rw [HRW.out]; simp [endTake, heb1.out, hen1.out, heb2.out, hen2.out])
          go_upto_region 18 with fail
          go_wp2_with (refine wpList_store_box (cells := #[.bool false, .int .i64 0, .bool false, .int .i64 0]) rfl 23 _ _ rfl X.out (by rfl) (by rfl) rfl (by kernel_rfl) (by simp [Value.oneCell']) ?_; intro u9 X9 st9)
          have B9 := st9.below w.heap.size w (by omega) B
          exact bodyPost_ret (v := .tuple #[.agg #[.bool false, .int .i64 0, .bool false, .int .i64 0], .bool false]) (box_result2 (p := 2) (q := 3) rfl _ _ (by rfl) X9 Tryd.underlying23 rfl (by kernel_rfl)) rfl (.inr ⟨HF.out, rfl, B9⟩)
        | false =>
          have HF : Hid (refWin (Sx.mk kl kh khi kda (k0 :: k1 :: k2 :: k3 :: r)) = none) := Lib.hid (by rw [HRW.out]; simp [endTake, heb1.out, hen1.out, heb2.out, hen2.out])
          go_upto_region 18 with fail
          go_wp2_with (refine wpList_store_box (cells := #[.bool false, .int .i64 0, .bool false, .int .i64 0]) rfl 23 _ _ rfl X.out (by rfl) (by rfl) rfl (by kernel_rfl) (by simp [Value.oneCell']) ?_; intro u9 X9 st9)
          have B9 := st9.below w.heap.size w (by omega) B
          exact bodyPost_ret (v := .tuple #[.agg #[.bool false, .int .i64 0, .bool false, .int .i64 0], .bool false]) (box_result2 (p := 2) (q := 3) rfl _ _ (by rfl) X9 Tryd.underlying23 rfl (by kernel_rfl)) rfl (.inr ⟨HF.out, rfl, B9⟩)
      | false =>
        have hl12 := Lib.hid ((HROW.out.after B).rangeA (i := 1) (by omega))
        go_wp2_with (refine wpList_load_midW rfl 27 _ rfl b _ rfl _ _ hl12.out Tryd.underlying27 rfl (by kernel_rfl) ?_)
        refine (refEnd_any k1 ⟨#[110, 111, 116, 45, 97, 102, 116, 101, 114]⟩ naL (by simp [naL]) (K 1) x3 ((HK.out 1 (by simp)).after B)).mono ?_
        rintro e x4 ⟨rfl, bx4⟩
        replace V := Lib.hid (V.out.after bx4)
        replace X := Lib.hid (X.out.after bx4)
        replace Y := Lib.hid (Y.out.after bx4)
        replace B := B.trans (bx4.mono B.size)
        clear bx4
        clear hl12
        generalize heb2 : endB k1 naL = eb2 at *
        generalize hen2 : endN k1 naL = en2 at *
        replace heb2 := Lib.hid heb2
        replace hen2 := Lib.hid hen2
        cases eb2 with
        | true =>
          have g2 := Y.out.cell 2 rfl
          have g3 := Y.out.cell 3 rfl
          have f2 := Y.out.frozen 2
          have f3 := Y.out.frozen 3
          go_upto_region 16 with fail
          have Y8 : Box ((x4.setCell ⟨yb, 2, none⟩ (.bool true)).setCell ⟨yb, 3, none⟩ (.int .i64 en2)) yb 23 #[.bool false, .int .i64 0, .bool true, .int .i64 en2] := (Y.out.set 2 _).set 3 _
          have V8 : Box ((x4.setCell ⟨yb, 2, none⟩ (.bool true)).setCell ⟨yb, 3, none⟩ (.int .i64 en2)) w.heap.size 27 #[.bool vl, .bool vh, .slice va1 vn1 vc1, .slice va2 vn2 vc2, .slice (some ⟨b, o, none⟩) (m + 4) (cc + 4)] := (V.out.far ⟨yb, 2, none⟩ _ (by show w.heap.size ≠ yb; omega)).far ⟨yb, 3, none⟩ _ (by show w.heap.size ≠ yb; omega)
          have X8 : Box ((x4.setCell ⟨yb, 2, none⟩ (.bool true)).setCell ⟨yb, 3, none⟩ (.int .i64 en2)) (w.heap.size + 1) 23 #[.bool false, .int .i64 0, .bool false, .int .i64 0] := (X.out.far ⟨yb, 2, none⟩ _ (by show w.heap.size + 1 ≠ yb; omega)).far ⟨yb, 3, none⟩ _ (by show w.heap.size + 1 ≠ yb; omega)
          have B8 : Below w.heap.size w ((x4.setCell ⟨yb, 2, none⟩ (.bool true)).setCell ⟨yb, 3, none⟩ (.int .i64 en2)) := (B.setCell (p := ⟨yb, 2, none⟩) (by show w.heap.size ≤ yb; omega) _).setCell (p := ⟨yb, 3, none⟩) (by show w.heap.size ≤ yb; omega) _
          clear g2 g3 f2 f3 V X Y B
          generalize ((x4.setCell ⟨yb, 2, none⟩ (.bool true)).setCell ⟨yb, 3, none⟩ (.int .i64 en2)) = u16_ at *
          have V := Lib.hid V8
          have X := Lib.hid X8
          have Y := Lib.hid Y8
          have B := B8
          clear V8 X8 Y8 B8
          have HF : Hid (refWin (Sx.mk kl kh khi kda (k0 :: k1 :: k2 :: k3 :: r)) = none) := Lib.hid (by rw [HRW.out]; simp [endTake, heb1.out, hen1.out, heb2.out, hen2.out])
          go_upto_region 18 with fail
          go_wp2_with (refine wpList_store_box (cells := #[.bool false, .int .i64 0, .bool false, .int .i64 0]) rfl 23 _ _ rfl X.out (by rfl) (by rfl) rfl (by kernel_rfl) (by simp [Value.oneCell']) ?_; intro u9 X9 st9)
          have B9 := st9.below w.heap.size w (by omega) B
          exact bodyPost_ret (v := .tuple #[.agg #[.bool false, .int .i64 0, .bool false, .int .i64 0], .bool false]) (box_result2 (p := 2) (q := 3) rfl _ _ (by rfl) X9 Tryd.underlying23 rfl (by kernel_rfl)) rfl (.inr ⟨HF.out, rfl, B9⟩)
        | false =>
          have HF : Hid (refWin (Sx.mk kl kh khi kda (k0 :: k1 :: k2 :: k3 :: r)) = none) := Lib.hid (by rw [HRW.out]; simp [endTake, heb1.out, hen1.out, heb2.out, hen2.out])
          go_upto_region 18 with fail
          go_wp2_with (refine wpList_store_box (cells := #[.bool false, .int .i64 0, .bool false, .int .i64 0]) rfl 23 _ _ rfl X.out (by rfl) (by rfl) rfl (by kernel_rfl) (by simp [Value.oneCell']) ?_; intro u9 X9 st9)
          have B9 := st9.below w.heap.size w (by omega) B
          exact bodyPost_ret (v := .tuple #[.agg #[.bool false, .int .i64 0, .bool false, .int .i64 0], .bool false]) (box_result2 (p := 2) (q := 3) rfl _ _ (by rfl) X9 Tryd.underlying23 rfl (by kernel_rfl)) rfl (.inr ⟨HF.out, rfl, B9⟩)

end Go.Proofs.YtigopfeamjhdpaaDoor
namespace Go.Proofs.YtigopfeamjhdpaaDoor
open Go.RowKit
set_option linter.unusedSimpArgs false
set_option linter.unusedVariables false

theorem or_zero {p : Bool} {f : Int} {A : Prop} (h : (p = true ∧ A) ∨ (p = false ∧ f = 0)) (hp : p = false) : f = 0 := h.elim (fun h => absurd (hp.symm.trans h.1) (by simp)) (fun h => h.2)
/-- a value that is there, or none -/
noncomputable def orNil (b : Bool) (s : Sx) : Sx := if b then s else Sx.nil
theorem KeyP.out {s : Bool} {l : List UInt8} {w w' : World} {e : Ending} (h : KeyP s l w e w') : ∃ (v : SV) (er : Int), e = .returned (.tuple #[.agg #[.bool v.l, .bool v.h, .slice v.a1 v.n1 v.c1, .slice v.a2 v.n2 v.c2, .slice v.a3 v.n3 v.c3], .int .i64 er]) ∧ RdI (fun b => w.heap.size ≤ b) w' v (orNil (keyMay s l.length) (keyS s l)) ∧ ((er = 0 ∧ keyMay s l.length = true) ∨ (er = 7 ∧ keyMay s l.length = false)) ∧ Below w.heap.size w w' := by
  rcases h with ⟨h1, v, rfl, h2, h3⟩ | ⟨h1, rfl, h3⟩
  · exact ⟨v, 0, rfl, by rw [h1]; exact h2, .inl ⟨rfl, h1⟩, h3⟩
  · exact ⟨SV.nil, 7, rfl, by rw [h1]; exact rd_nil _ _, .inr ⟨rfl, h1⟩, h3⟩
theorem SumsP.out {ls : List (List UInt8)} {w w' : World} {e : Ending} (h : SumsP ls w e w') : ∃ (v : SV), e = .returned (.tuple #[.agg #[.bool v.l, .bool v.h, .slice v.a1 v.n1 v.c1, .slice v.a2 v.n2 v.c2, .slice v.a3 v.n3 v.c3], .bool (sumsOk ls)]) ∧ RdI (fun b => w.heap.size ≤ b) w' v (orNil (sumsOk ls) (li (sumsK ls))) ∧ Below w.heap.size w w' := by
  rcases h with ⟨h1, v, rfl, h2, h3⟩ | ⟨h1, rfl, h3⟩
  · exact ⟨v, by rw [h1], by rw [h1]; exact h2, h3⟩
  · exact ⟨SV.nil, by rw [h1]; rfl, by rw [h1]; exact rd_nil _ _, h3⟩
theorem WinP.out {x : W4} {w w' : World} {e : Ending} (h : WinP x w e w') : ∃ (v : SV) (er : Int), e = .returned (.tuple #[.agg #[.bool v.l, .bool v.h, .slice v.a1 v.n1 v.c1, .slice v.a2 v.n2 v.c2, .slice v.a3 v.n3 v.c3], .int .i64 er]) ∧ RdI (fun b => w.heap.size ≤ b) w' v (orNil x.may (winS x)) ∧ ((er = 0 ∧ x.may = true) ∨ (er = 11 ∧ x.may = false)) ∧ Below w.heap.size w w' := by
  rcases h with ⟨h1, v, rfl, h2, h3⟩ | ⟨h1, rfl, h3⟩
  · exact ⟨v, 0, rfl, by rw [h1]; exact h2, .inl ⟨rfl, h1⟩, h3⟩
  · exact ⟨SV.nil, 11, rfl, by rw [h1]; exact rd_nil _ _, .inr ⟨rfl, h1⟩, h3⟩
/-- what putting a list answers -/
def CrlP (c : Cr) (w : World) (e : Ending) (w' : World) : Prop :=
  (c.may = true ∧ PutQ c.tree (.int .i64 0) w e w') ∨ (c.may = false ∧ e = .returned (.tuple #[.agg #[.bool false, .bool false, .slice none 0 0, .slice none 0 0, .slice none 0 0], .int .i64 3]) ∧ Below w.heap.size w w')
/-- the list's value, before the window -/
def CutC (w0 q : World) (B : Nat) (T : TypeId) (ts : List Sx) (v : Value) (w' : World) : Prop :=
  ∃ (g : Nat) (ta : Option Addr) (tc : Nat) (K : Nat → SV), v = .pointer (some ⟨g, 0, none⟩) ∧ q.heap.size ≤ g ∧ Box w' g T #[.bool true, .bool false, .slice none 0 0, .slice none 0 0, .slice ta 3 tc] ∧ OwnG w' B 5 (.slice ta 3 tc) 3 (newsK K 3) ∧
    (∀ b, (Value.slice ta 3 tc).ownBlock = some b → b ≠ g ∧ q.heap.size ≤ b) ∧ (∀ i (hi : i < ts.length), RdI (okO (fun b => (w0.heap.size ≤ b ∧ b ≠ w0.heap.size + 1) ∧ b ≠ g) (.slice ta 3 tc)) w' (K i) ts[i]) ∧ Below q.heap.size q w'

end Go.Proofs.YtigopfeamjhdpaaDoor
namespace Go.Proofs.YtigopfeamjhdpaaDoor
open Go.RowKit
set_option linter.unusedSimpArgs false
set_option linter.unusedVariables false

theorem keyTry_3 (l h : Bool) (hi da : List UInt8) (ks : List Sx) (h3 : ks.length = 3) : keyTry (.mk l h hi da ks) = some (true, (ks[2]'(by omega)).da) := by
  match ks, h3 with
  | [a, b, c], _ => rfl
theorem keyTry_2n (l h : Bool) (hi da : List UInt8) (ks : List Sx) (h2 : ks.length = 2) (hn : (ks[1]'(by omega)).ks.length ≠ 2) : keyTry (.mk l h hi da ks) = none := by
  match ks, h2, hn with
  | [a, .mk _ _ _ _ bk], _, hn =>
    match bk, hn with
    | [], _ => rfl
    | [_], _ => rfl
    | [_, _], hn => exact absurd rfl hn
    | _ :: _ :: _ :: _, _ => rfl
theorem keyTry_2 (l h : Bool) (hi da : List UInt8) (ks : List Sx) (h2 : ks.length = 2) (hn : (ks[1]'(by omega)).ks.length = 2) : keyTry (.mk l h hi da ks) = some (false, ((ks[1]'(by omega)).ks[1]'(by omega)).da) := by
  match ks, h2, hn with
  | [a, .mk _ _ _ _ bk], _, hn =>
    match bk, hn with
    | [_, _], hn => rfl
theorem keyTry_n (l h : Bool) (hi da : List UInt8) (ks : List Sx) (h2 : ks.length ≠ 2) (h3 : ks.length ≠ 3) : keyTry (.mk l h hi da ks) = none := by
  match ks, h2, h3 with
  | [], _, _ => rfl
  | [_], _, _ => rfl
  | [_, _], h, _ => exact absurd rfl h
  | [_, _, _], _, h => exact absurd rfl h
  | _ :: _ :: _ :: _ :: _, _, _ => rfl
/-- cells in the midst of a block that is there -/
def RgA (w : World) (b o : Nat) (cs : List Value) : Prop := w.rangeAt b o cs ∧ b < w.heap.size
theorem RgA.after {w w' : World} {b o : Nat} {cs : List Value} (h : RgA w b o cs) (hb : Below w.heap.size w w') : RgA w' b o cs :=
  ⟨fun j v hv => (World.cell?_of_block (a := ⟨b, o + j, none⟩) (hb.block b h.2)).trans (h.1 j v hv), Nat.lt_of_lt_of_le h.2 hb.size⟩
/-- what getting a principal answers -/
def KeyG (k : Sx) (w : World) (e : Ending) (w' : World) : Prop :=
  (∃ s l, keyGet k = some (s, l) ∧ ∃ a n c, e = .returned (.tuple #[.agg #[.bool s, .slice a n c], .int .i64 0]) ∧ Sl w' a n c l ∧ InB (fun b => w.heap.size ≤ b) a n ∧ Below w.heap.size w w') ∨
  (keyGet k = none ∧ e = .returned (.tuple #[.agg #[.bool false, .slice none 0 0], .int .i64 7]) ∧ Below w.heap.size w w')
theorem keyGet_no {k : Sx} (h : keyTry k = none) : keyGet k = none := by unfold keyGet; rw [h]
theorem keyGet_yes {k : Sx} {s : Bool} {l : List UInt8} (h : keyTry k = some (s, l)) : keyGet k = if keyMay s l.length && k.same (keyS s l) then some (s, l) else none := by unfold keyGet; rw [h]

end Go.Proofs.YtigopfeamjhdpaaDoor
namespace Go.Proofs.YtigopfeamjhdpaaDoor
open Go.RowKit
set_option linter.unusedSimpArgs false
set_option linter.unusedVariables false

theorem eq_str (a b : List UInt8) (r : Bool) (h : (a == b) = r) (w : World) : (binOp .eql 9 (.string ⟨a.toArray⟩) (.string ⟨b.toArray⟩)).run Tryd.prog w = .ok (.bool r) w := by
  subst h
  have : ((⟨a.toArray⟩ : ByteArray) == ⟨b.toArray⟩) = (a == b) := by
    show (a.toArray == b.toArray) = (a == b)
    simp
  simp [go_sem, this]
theorem winStep_n (x : W4) (k : Sx) (h : k.ks.length ≠ 2) : winStep x k = x := by
  obtain ⟨_, _, _, _, ks⟩ := k
  match ks, h with
  | [], _ => rfl
  | [_], _ => rfl
  | [_, _], h => exact absurd rfl h
  | _ :: _ :: _ :: _, _ => rfl
theorem winStep_2 (x : W4) (k : Sx) (h : k.ks.length = 2) : winStep x k = if (k.ks[0]'(by omega)).da = nbL then ⟨dateOk (k.ks[1]'(by omega)).da, dateV (k.ks[1]'(by omega)).da, x.q, x.t⟩ else if (k.ks[0]'(by omega)).da = naL then ⟨x.p, x.f, dateOk (k.ks[1]'(by omega)).da, dateV (k.ks[1]'(by omega)).da⟩ else x := by
  obtain ⟨_, _, _, _, ks⟩ := k
  match ks, h with
  | [_, _], h => rfl
def winTo (ks : List Sx) (k : Nat) : W4 := (ks.tail.take k).foldl winStep W4.nil
theorem winTo_snoc (ks : List Sx) (k : Nat) (h : k + 1 < ks.length) : winTo ks (k + 1) = winStep (winTo ks k) ks[k + 1] := by
  unfold winTo
  rw [List.take_succ_eq_append_getElem (by simp; omega), List.foldl_append]
  simp
theorem winTo_all (l h : Bool) (hi da : List UInt8) (ks : List Sx) (k : Nat) (hk : ks.length ≤ k + 1) : winTo ks k = winFold (.mk l h hi da ks) := by
  unfold winTo winFold
  rw [List.take_of_length_le (by simp; omega)]
  rfl
/-- what getting a window answers -/
def WinG (s : Sx) (w : World) (e : Ending) (w' : World) : Prop :=
  (∃ x : W4, winGet s = some x ∧ e = .returned (.tuple #[.agg #[.bool x.p, .int .i64 x.f, .bool x.q, .int .i64 x.t], .int .i64 0]) ∧ Below w.heap.size w w') ∨
  (winGet s = none ∧ e = .returned (.tuple #[.agg #[.bool false, .int .i64 0, .bool false, .int .i64 0], .int .i64 11]) ∧ Below w.heap.size w w')

set_option maxHeartbeats 8000000 in
set_option maxRecDepth 100000 in
theorem winGet_any (s : Sx) (v : SV) (w : World) (hr : Rd w v s) (mm : Nat) (hw : s.wide mm = false) : Calls Tryd.prog 13 #[v.val] w (WinG s w) := by
  obtain ⟨kl, kh, khi, kda, ks⟩ := s
  have HW : Hid (∀ k ∈ ks, k.wide (mm + 1) = false) := Lib.hid (wide_no hw).2.2.2.2
  have HRV := Lib.hid hr
  obtain ⟨e1, e2, _, _, hn, hnc, hcm, K, hrow, hk⟩ := hr.parts
  obtain ⟨vl, vh, va1, vn1, vc1, va2, vn2, vc2, va3, vn3, vc3⟩ := v
  replace hn : vn3 = ks.length := hn
  replace hnc : vn3 ≤ vc3 := hnc
  replace hcm : vc3 ≤ maxLen := hcm
  unfold maxLen at hcm
  replace hk : ∀ i (hi : i < ks.length), Rd w (K i) ks[i] := hk
  replace hrow : RowAt w va3 vn3 vc3 K := hrow
  have HN := Lib.hid hn
  have HK := Lib.hid hk
  have HROW := Lib.hid hrow
  unfold SV.val
  show Calls _ _ #[.agg #[.bool vl, .bool vh, .slice va1 vn1 vc1, .slice va2 vn2 vc2, .slice va3 vn3 vc3]] _ _
  have B : Below w.heap.size w (((w.alloc (.cells #[.bool vl, .bool vh, .slice va1 vn1 vc1, .slice va2 vn2 vc2, .slice va3 vn3 vc3] 27)).alloc (.cells #[.bool false, .int .i64 0, .bool false, .int .i64 0] 23)).alloc (.cells #[.bool false, .int .i64 0, .bool false, .int .i64 0] 23)) := (((Below.refl _ _).alloc (Nat.le_refl _) _).alloc (by simp) _).alloc (by simp; omega) _
  have V : Hid (Box (((w.alloc (.cells #[.bool vl, .bool vh, .slice va1 vn1 vc1, .slice va2 vn2 vc2, .slice va3 vn3 vc3] 27)).alloc (.cells #[.bool false, .int .i64 0, .bool false, .int .i64 0] 23)).alloc (.cells #[.bool false, .int .i64 0, .bool false, .int .i64 0] 23)) w.heap.size 27 #[.bool vl, .bool vh, .slice va1 vn1 vc1, .slice va2 vn2 vc2, .slice va3 vn3 vc3]) := Lib.hid (((Box.new _ _ _).alloc _).alloc _)
  have X : Hid (Box (((w.alloc (.cells #[.bool vl, .bool vh, .slice va1 vn1 vc1, .slice va2 vn2 vc2, .slice va3 vn3 vc3] 27)).alloc (.cells #[.bool false, .int .i64 0, .bool false, .int .i64 0] 23)).alloc (.cells #[.bool false, .int .i64 0, .bool false, .int .i64 0] 23)) (w.heap.size + 1) 23 #[.bool false, .int .i64 0, .bool false, .int .i64 0]) := Lib.hid (by
    have := Box.new (w.alloc (.cells #[.bool vl, .bool vh, .slice va1 vn1 vc1, .slice va2 vn2 vc2, .slice va3 vn3 vc3] 27)) 23 #[.bool false, .int .i64 0, .bool false, .int .i64 0]
    simp only [World.size_alloc] at this
    exact Box.alloc this _)
  have G : Hid (Box (((w.alloc (.cells #[.bool vl, .bool vh, .slice va1 vn1 vc1, .slice va2 vn2 vc2, .slice va3 vn3 vc3] 27)).alloc (.cells #[.bool false, .int .i64 0, .bool false, .int .i64 0] 23)).alloc (.cells #[.bool false, .int .i64 0, .bool false, .int .i64 0] 23)) (w.heap.size + 2) 23 #[.bool false, .int .i64 0, .bool false, .int .i64 0]) := Lib.hid (by
    have := Box.new ((w.alloc (.cells #[.bool vl, .bool vh, .slice va1 vn1 vc1, .slice va2 vn2 vc2, .slice va3 vn3 vc3] 27)).alloc (.cells #[.bool false, .int .i64 0, .bool false, .int .i64 0] 23)) 23 #[.bool false, .int .i64 0, .bool false, .int .i64 0]
    simpa using this)
  clear hr e1 e2 hn hk hrow hw
  go_enter Tryd.func13, Tryd.ntmps13
  go_upto_region 2 with fail
  change Code.wp _ _ _ _ (((w.alloc (.cells #[.bool vl, .bool vh, .slice va1 vn1 vc1, .slice va2 vn2 vc2, .slice va3 vn3 vc3] 27)).alloc (.cells #[.bool false, .int .i64 0, .bool false, .int .i64 0] 23)).alloc (.cells #[.bool false, .int .i64 0, .bool false, .int .i64 0] 23))
  generalize (((w.alloc (.cells #[.bool vl, .bool vh, .slice va1 vn1 vc1, .slice va2 vn2 vc2, .slice va3 vn3 vc3] 27)).alloc (.cells #[.bool false, .int .i64 0, .bool false, .int .i64 0] 23)).alloc (.cells #[.bool false, .int .i64 0, .bool false, .int .i64 0] 23)) = x0 at *
  have x4 := V.out.cell 4 rfl
  go_upto_if 14 with fail
  go_cut [3] from 5 to 54 (fun s3 wx => s3 = .int .i64 0 ∧ Box wx w.heap.size 27 #[.bool vl, .bool vh, .slice va1 vn1 vc1, .slice va2 vn2 vc2, .slice va3 vn3 vc3] ∧ Box wx (w.heap.size + 1) 23 #[.bool false, .int .i64 0, .bool false, .int .i64 0] ∧ Box wx (w.heap.size + 2) 23 #[.bool (winFold (.mk kl kh khi kda ks)).p, .int .i64 (winFold (.mk kl kh khi kda ks)).f, .bool (winFold (.mk kl kh khi kda ks)).q, .int .i64 (winFold (.mk kl kh khi kda ks)).t] ∧ Below w.heap.size w wx)
  case first =>
    by_cases h0 : vn3 = 0
    case pos =>
      subst h0
      have HE : Hid (W4.nil = winFold (.mk kl kh khi kda ks)) := Lib.hid (winTo_all kl kh khi kda ks 0 (by have := HN.out; omega))
      go_wp2_with fail
      go_meet
      rw [← HE.out]
      exact ⟨rfl, V.out, X.out, G.out, B⟩
    case neg =>
      have h0p : (0 : Int) < vn3 := by omega
      by_cases h1 : vn3 = 1
      case pos =>
        subst h1
        obtain ⟨b, o, rfl, _⟩ := HROW.out.range (i := 0) (by omega)
        by_cases hc1 : vc3 = 1
        case pos =>
          subst hc1
          have HE : Hid (W4.nil = winFold (.mk kl kh khi kda ks)) := Lib.hid (winTo_all kl kh khi kda ks 0 (by have := HN.out; omega))
          go_wp2_with fail
          go_loopw [19] (fun i wr => i = .int .i64 0 ∧ wr = x0) (fun _ _ => 0)
          case atStart => exact ⟨rfl, rfl⟩
          case round =>
            obtain ⟨rfl, rfl⟩ := hrel
            go_wp2_with fail
            go_meet
            rw [← HE.out]
            exact ⟨rfl, V.out, X.out, G.out, B⟩
        case neg =>
          have hc2 : (1 : Int) < vc3 := by omega
          have HE : Hid (W4.nil = winFold (.mk kl kh khi kda ks)) := Lib.hid (winTo_all kl kh khi kda ks 0 (by have := HN.out; omega))
          go_wp2_with fail
          go_loopw [19] (fun i wr => i = .int .i64 0 ∧ wr = x0) (fun _ _ => 0)
          case atStart => exact ⟨rfl, rfl⟩
          case round =>
            obtain ⟨rfl, rfl⟩ := hrel
            go_wp2_with fail
            go_meet
            rw [← HE.out]
            exact ⟨rfl, V.out, X.out, G.out, B⟩
      case neg =>
        obtain ⟨b, o, rfl, _⟩ := HROW.out.range (i := 0) (by omega)
        have hc2 : (1 : Int) < vc3 := by omega
        have hn2 : (2 : Int) ≤ vn3 := by omega
        go_wp2_with fail
        go_loopw [19] (fun i wr => ∃ (k : Nat) (x : W4), k + 1 ≤ vn3 ∧ i = .int .i64 k ∧ Hid (x = winTo ks k) ∧ Box wr w.heap.size 27 #[.bool vl, .bool vh, .slice va1 vn1 vc1, .slice va2 vn2 vc2, .slice (some ⟨b, o, none⟩) vn3 vc3] ∧ Box wr (w.heap.size + 1) 23 #[.bool false, .int .i64 0, .bool false, .int .i64 0] ∧ Box wr (w.heap.size + 2) 23 #[.bool x.p, .int .i64 x.f, .bool x.q, .int .i64 x.t] ∧ Below w.heap.size w wr) (fun i _ => vn3 - (intOf i).toNat)
        case atStart => exact ⟨0, W4.nil, by omega, rfl, Lib.hid rfl, V.out, X.out, G.out, B⟩
        case round =>
          clear x4 V X G B
          obtain ⟨k, x, hk1, rfl, hx, V, X, G, B⟩ := hrel
          obtain ⟨xp, xf, xq, xt⟩ := x
          dsimp only at G
          replace V := Lib.hid V
          replace X := Lib.hid X
          replace G := Lib.hid G
          by_cases hlt : k + 1 < vn3
          case neg =>
            have hlt2 : ¬ (k : Int) < (vn3 : Int) - 1 := by omega
            have HE : Hid (W4.mk xp xf xq xt = winFold (.mk kl kh khi kda ks)) := Lib.hid (hx.out.trans (winTo_all kl kh khi kda ks k (by have := HN.out; omega)))
            go_wp2_with fail
            go_meet
            rw [← HE.out]
            exact ⟨rfl, V.out, X.out, G.out, B⟩
          case pos =>
            have hlt2 : (k : Int) < (vn3 : Int) - 1 := by omega
            have hkl : k + 1 < ks.length := by have := HN.out; omega
            have HWK : Hid ((ks[k + 1]'hkl).wide (mm + 1) = false) := Lib.hid (HW.out _ (List.getElem_mem hkl))
            have HTO := Lib.hid (winTo_snoc ks k hkl)
            have HRK := Lib.hid (HK.out (k + 1) hkl)
            obtain ⟨b', o', er, hld⟩ := (HROW.out.after B).range (i := k + 1) (by omega)
            cases er
            rw [← hx.out] at HTO
            clear hx
            generalize (ks[k + 1]'hkl) = kid at *
            rw [show o + (k + 1) * 5 = o + 5 + k * 5 by omega] at hld
            replace hld := Lib.hid hld
            obtain ⟨_, _, _, _, hn1, hnc1, hcm1, K1, hrow1, hk1⟩ := HRK.out.parts
            have HROW1 := Lib.hid hrow1
            have HK1 := Lib.hid hk1
            unfold maxLen at hcm1
            clear hrow1 hk1
            generalize (K (k + 1)) = kv at *
            obtain ⟨ul, uh, ua1, un1, uc1, ua2, un2, uc2, ua3, un3, uc3⟩ := kv
            replace hn1 : un3 = kid.ks.length := hn1
            replace hnc1 : un3 ≤ uc3 := hnc1
            replace hcm1 : uc3 ≤ 2 ^ 63 - 1 := hcm1
            replace HROW1 : Hid (RowAt w ua3 un3 uc3 K1) := HROW1
            have HN1 := Lib.hid hn1
            clear hn1
            go_upto_region 6 with first | (refine wpList_load_midW rfl 27 _ rfl b _ rfl _ _ hld.out Tryd.underlying27 rfl (by kernel_rfl) ?_) | (refine wpList_store_box (cells := #[.bool ul, .bool uh, .slice ua1 un1 uc1, .slice ua2 un2 uc2, .slice ua3 un3 uc3]) rfl 27 _ _ rfl (Box.new _ _ _) (by rfl) (by rfl) rfl (by kernel_rfl) (by simp [Value.oneCell']) ?_; intro u9 X9 st9)
            have bs1 : Below wr.heap.size wr u9 := st9.below wr.heap.size wr (Nat.le_refl _) ((Below.refl _ _).alloc (Nat.le_refl _) _)
            have Y6 := Lib.hid X9
            replace V := Lib.hid (V.out.after bs1)
            replace X := Lib.hid (X.out.after bs1)
            replace G := Lib.hid (G.out.after bs1)
            replace B := B.trans (bs1.mono B.size)
            clear bs1 st9 X9
            generalize u9 = x1 at *
            clear hld
            have y4 := Y6.out.cell 4 rfl
            by_cases h2 : un3 = 2
            case neg =>
              have q2 : ((un3 : Int) != 2) = true := by simp; omega
              have HS : Hid (W4.mk xp xf xq xt = winTo ks (k + 1)) := Lib.hid (by rw [HTO.out, winStep_n _ _ (by have := HN1.out; omega)])
              clear h2
              go_wp2_with fail
              go_roundw
              case rel => exact ⟨k + 1, ⟨xp, xf, xq, xt⟩, by omega, by go_num, HS, V.out, X.out, G.out, B⟩
              case measure => simp [intOf]; omega
            case pos =>
              subst h2
              obtain ⟨b1, o1, rfl, hl0⟩ := (HROW1.out.after B).range (i := 0) (by omega)
              obtain ⟨b1, o1, e1, hl1⟩ := (HROW1.out.after B).range (i := 1) (by omega)
              cases e1
              have c1 : x1.cell? ⟨b1, o1 + 8, none⟩ = some (.slice (K1 1).a2 (K1 1).n2 (K1 1).c2) := by have := hl1 3 _ rfl; rwa [show o1 + 1 * 5 + 3 = o1 + 8 by omega] at this
              clear hl0 hl1
              have HSD := Lib.hid ((HK1.out 1 (by have := HN1.out; omega)).parts.2.2.2.1.after B)
              have HS0 := Lib.hid ((HK1.out 0 (by have := HN1.out; omega)).parts.2.2.2.1)
              have HLE : Hid ((kid.ks[1]'(by have := HN1.out; omega)).da.length ≤ 5000) := Lib.hid (wide_no ((wide_no HWK.out).2.2.2.2 _ (List.getElem_mem _))).2.2.2.1
              have HS2 := Lib.hid (winStep_2 ⟨xp, xf, xq, xt⟩ kid HN1.out.symm)
              dsimp only at HS2
              rw [HS2.out] at HTO
              clear HS2
              generalize (kid.ks[1]'(by have := HN1.out; omega)).da = dl at *
              generalize (kid.ks[0]'(by have := HN1.out; omega)).da = wl at *
              have hny : w.heap.size + 2 < x1.heap.size := G.out.lt
              go_wp2_with fail
              refine (get_any _ _ _ dl x1 HSD.out (by have := HLE.out; omega)).mono ?_
              rintro e x2 ⟨rfl, bx2⟩
              replace V := Lib.hid (V.out.after bx2)
              replace X := Lib.hid (X.out.after bx2)
              replace G := Lib.hid (G.out.after bx2)
              replace Y6 := Lib.hid (Y6.out.after bx2)
              replace B := B.trans (bx2.mono B.size)
              clear bx2
              have y4 := Y6.out.cell 4 rfl
              have c0 : x2.cell? ⟨b1, o1 + 3, none⟩ = some (.slice (K1 0).a2 (K1 0).n2 (K1 0).c2) := by obtain ⟨b2, o2, e2, hl0⟩ := (HROW1.out.after B).range (i := 0) (by omega); cases e2; have := hl0 3 _ rfl; rwa [show o1 + 0 * 5 + 3 = o1 + 3 by omega] at this
              have hcv := conv_sl (HS0.out.after B)
              clear HSD
              have g0 := G.out.cell 0 rfl
              have g1 := G.out.cell 1 rfl
              have g2 := G.out.cell 2 rfl
              have g3 := G.out.cell 3 rfl
              have f0 := G.out.frozen 0
              have f1 := G.out.frozen 1
              have f2 := G.out.frozen 2
              have f3 := G.out.frozen 3
              generalize dateV dl = dn at *
              generalize dateOk dl = dk at *
              by_cases hb : wl = nbL
              case pos =>
                have HS : Hid (W4.mk dk dn xq xt = winTo ks (k + 1)) := Lib.hid (by rw [HTO.out, if_pos hb])
                have hwb : (wl == [110, 111, 116, 45, 98, 101, 102, 111, 114, 101]) = true := (beq_iff_eq.2 hb)
                clear hb
                go_upto_region 13 with fail
                have G8 : Box ((x2.setCell ⟨w.heap.size + 2, 0, none⟩ (.bool dk)).setCell ⟨w.heap.size + 2, 1, none⟩ (.int .i64 dn)) (w.heap.size + 2) 23 #[.bool (W4.mk dk dn xq xt).p, .int .i64 (W4.mk dk dn xq xt).f, .bool (W4.mk dk dn xq xt).q, .int .i64 (W4.mk dk dn xq xt).t] := (G.out.set 0 _).set 1 _
                have V8 : Box ((x2.setCell ⟨w.heap.size + 2, 0, none⟩ (.bool dk)).setCell ⟨w.heap.size + 2, 1, none⟩ (.int .i64 dn)) w.heap.size 27 #[.bool vl, .bool vh, .slice va1 vn1 vc1, .slice va2 vn2 vc2, .slice (some ⟨b, o, none⟩) vn3 vc3] := (V.out.far ⟨w.heap.size + 2, 0, none⟩ _ (by show w.heap.size ≠ w.heap.size + 2; omega)).far ⟨w.heap.size + 2, 1, none⟩ _ (by show w.heap.size ≠ w.heap.size + 2; omega)
                have X8 : Box ((x2.setCell ⟨w.heap.size + 2, 0, none⟩ (.bool dk)).setCell ⟨w.heap.size + 2, 1, none⟩ (.int .i64 dn)) (w.heap.size + 1) 23 #[.bool false, .int .i64 0, .bool false, .int .i64 0] := (X.out.far ⟨w.heap.size + 2, 0, none⟩ _ (by show w.heap.size + 1 ≠ w.heap.size + 2; omega)).far ⟨w.heap.size + 2, 1, none⟩ _ (by show w.heap.size + 1 ≠ w.heap.size + 2; omega)
                have B8 : Below w.heap.size w ((x2.setCell ⟨w.heap.size + 2, 0, none⟩ (.bool dk)).setCell ⟨w.heap.size + 2, 1, none⟩ (.int .i64 dn)) := (B.setCell (p := ⟨w.heap.size + 2, 0, none⟩) (by show w.heap.size ≤ w.heap.size + 2; omega) _).setCell (p := ⟨w.heap.size + 2, 1, none⟩) (by show w.heap.size ≤ w.heap.size + 2; omega) _
                clear g0 g1 g2 g3 f0 f1 f2 f3 y4 c0 V X G B Y6 hcv
                generalize ((x2.setCell ⟨w.heap.size + 2, 0, none⟩ (.bool dk)).setCell ⟨w.heap.size + 2, 1, none⟩ (.int .i64 dn)) = u8 at *
                have V := Lib.hid V8
                have X := Lib.hid X8
                have G := Lib.hid G8
                have B := B8
                clear V8 X8 G8 B8
                go_wp2_with fail
                go_roundw
                case rel => exact ⟨k + 1, (W4.mk dk dn xq xt), by omega, by go_num, HS, V.out, X.out, G.out, B⟩
                case measure => simp [intOf]; omega
              case neg =>
                have hwb : (wl == [110, 111, 116, 45, 98, 101, 102, 111, 114, 101]) = false := (beq_eq_false_iff_ne.2 hb)
                by_cases ha : wl = naL
                case pos =>
                  have HS : Hid (W4.mk xp xf dk dn = winTo ks (k + 1)) := Lib.hid (by rw [HTO.out, if_neg hb, if_pos ha])
                  have hwa : (wl == [110, 111, 116, 45, 97, 102, 116, 101, 114]) = true := (beq_iff_eq.2 ha)
                  clear ha hb
                  go_upto_region 13 with fail
                  have G8 : Box ((x2.setCell ⟨w.heap.size + 2, 2, none⟩ (.bool dk)).setCell ⟨w.heap.size + 2, 3, none⟩ (.int .i64 dn)) (w.heap.size + 2) 23 #[.bool (W4.mk xp xf dk dn).p, .int .i64 (W4.mk xp xf dk dn).f, .bool (W4.mk xp xf dk dn).q, .int .i64 (W4.mk xp xf dk dn).t] := (G.out.set 2 _).set 3 _
                  have V8 : Box ((x2.setCell ⟨w.heap.size + 2, 2, none⟩ (.bool dk)).setCell ⟨w.heap.size + 2, 3, none⟩ (.int .i64 dn)) w.heap.size 27 #[.bool vl, .bool vh, .slice va1 vn1 vc1, .slice va2 vn2 vc2, .slice (some ⟨b, o, none⟩) vn3 vc3] := (V.out.far ⟨w.heap.size + 2, 2, none⟩ _ (by show w.heap.size ≠ w.heap.size + 2; omega)).far ⟨w.heap.size + 2, 3, none⟩ _ (by show w.heap.size ≠ w.heap.size + 2; omega)
                  have X8 : Box ((x2.setCell ⟨w.heap.size + 2, 2, none⟩ (.bool dk)).setCell ⟨w.heap.size + 2, 3, none⟩ (.int .i64 dn)) (w.heap.size + 1) 23 #[.bool false, .int .i64 0, .bool false, .int .i64 0] := (X.out.far ⟨w.heap.size + 2, 2, none⟩ _ (by show w.heap.size + 1 ≠ w.heap.size + 2; omega)).far ⟨w.heap.size + 2, 3, none⟩ _ (by show w.heap.size + 1 ≠ w.heap.size + 2; omega)
                  have B8 : Below w.heap.size w ((x2.setCell ⟨w.heap.size + 2, 2, none⟩ (.bool dk)).setCell ⟨w.heap.size + 2, 3, none⟩ (.int .i64 dn)) := (B.setCell (p := ⟨w.heap.size + 2, 2, none⟩) (by show w.heap.size ≤ w.heap.size + 2; omega) _).setCell (p := ⟨w.heap.size + 2, 3, none⟩) (by show w.heap.size ≤ w.heap.size + 2; omega) _
                  clear g0 g1 g2 g3 f0 f1 f2 f3 y4 c0 V X G B Y6 hcv
                  generalize ((x2.setCell ⟨w.heap.size + 2, 2, none⟩ (.bool dk)).setCell ⟨w.heap.size + 2, 3, none⟩ (.int .i64 dn)) = u8 at *
                  have V := Lib.hid V8
                  have X := Lib.hid X8
                  have G := Lib.hid G8
                  have B := B8
                  clear V8 X8 G8 B8
                  go_wp2_with fail
                  go_roundw
                  case rel => exact ⟨k + 1, (W4.mk xp xf dk dn), by omega, by go_num, HS, V.out, X.out, G.out, B⟩
                  case measure => simp [intOf]; omega
                case neg =>
                  have hwa : (wl == [110, 111, 116, 45, 97, 102, 116, 101, 114]) = false := (beq_eq_false_iff_ne.2 ha)
                  have HS : Hid (W4.mk xp xf xq xt = winTo ks (k + 1)) := Lib.hid (by rw [HTO.out, if_neg hb, if_neg ha])
                  clear ha hb
                  go_wp2_with fail
                  go_roundw
                  case rel => exact ⟨k + 1, ⟨xp, xf, xq, xt⟩, by omega, by go_num, HS, V.out, X.out, G.out, B⟩
                  case measure => simp [intOf]; omega
  case rest =>
    clear x4 V X G B
    obtain ⟨rfl, V, X, G, B⟩ := hcut
    replace V := Lib.hid V
    replace X := Lib.hid X
    replace G := Lib.hid G
    have HWG : Hid (winGet (.mk kl kh khi kda ks) = if (winFold (.mk kl kh khi kda ks)).may && (winS (winFold (.mk kl kh khi kda ks))).same (.mk kl kh khi kda ks) then some (winFold (.mk kl kh khi kda ks)) else none) := Lib.hid rfl
    generalize (winFold (.mk kl kh khi kda ks)) = x at *
    go_wp2_with (refine wpList_load_box rfl 23 _ rfl G.out (by rfl) Tryd.underlying23 rfl (by kernel_rfl) ?_)
    refine (winPut_any x.p x.f x.q x.t wc).mono ?_
    rintro e z1 hP
    replace hP : WinP x _ _ _ := hP
    obtain ⟨⟨tl, th, ta1, tn1, tc1, ta2, tn2, tc2, ta3, tn3, tc3⟩, er, rfl, rt, hk, bz1⟩ := hP.out
    clear hP
    have HKK := Lib.hid hk
    clear hk
    replace rt := Lib.hid rt
    replace V := Lib.hid (V.out.after bz1)
    replace X := Lib.hid (X.out.after bz1)
    replace G := Lib.hid (G.out.after bz1)
    replace B := B.trans (bz1.mono B.size)
    clear bz1
    go_upto_region 15 with (refine wpList_store_box (cells := #[.bool tl, .bool th, .slice ta1 tn1 tc1, .slice ta2 tn2 tc2, .slice ta3 tn3 tc3]) rfl 27 _ _ rfl (Box.new _ _ _) (by rfl) (by rfl) rfl (by kernel_rfl) (by simp [Value.oneCell']) ?_; intro u9 X9 st9)
    have bs1 : Below z1.heap.size z1 u9 := st9.below z1.heap.size z1 (Nat.le_refl _) ((Below.refl _ _).alloc (Nat.le_refl _) _)
    have Y9 := Lib.hid X9
    replace V := Lib.hid (V.out.after bs1)
    replace X := Lib.hid (X.out.after bs1)
    replace G := Lib.hid (G.out.after bs1)
    replace rt := Lib.hid (rt.out.after bs1)
    replace B := B.trans (bs1.mono B.size)
    clear bs1 st9 X9
    generalize u9 = x1 at *
    rcases HKK.out with ⟨rfl, hk⟩ | ⟨rfl, hk⟩
    · skip
      replace hk := Lib.hid hk
      clear HKK
      rw [hk.out] at rt
      replace rt : Hid (RdI _ _ _ (winS x)) := rt
      have HS := Lib.hid (fun w' h1 h2 => same_any (winS x) (.mk kl kh khi kda ks) ⟨tl, th, ta1, tn1, tc1, ta2, tn2, tc2, ta3, tn3, tc3⟩ ⟨vl, vh, va1, vn1, vc1, va2, vn2, vc2, va3, vn3, vc3⟩ w' h1 h2)
      obtain ⟨r, hr⟩ : ∃ r, r = (winS x).same (.mk kl kh khi kda ks) := ⟨_, rfl⟩
      simp only [← hr] at HS
      have HRR := Lib.hid hr
      clear hr
      go_wp2_with first | (refine wpList_load_box rfl 27 _ rfl V.out (by rfl) Tryd.underlying27 rfl (by kernel_rfl) ?_) | (refine wpList_load_box rfl 27 _ rfl Y9.out (by rfl) Tryd.underlying27 rfl (by kernel_rfl) ?_)
      refine (HS.out x1 (rt.out.mono (fun _ _ => trivial)) (HRV.out.after B)).mono ?_
      rintro e x2 ⟨rfl, bx2⟩
      replace V := Lib.hid (V.out.after bx2)
      replace X := Lib.hid (X.out.after bx2)
      replace G := Lib.hid (G.out.after bx2)
      replace rt := Lib.hid (rt.out.after bx2)
      replace Y9 := Lib.hid (Y9.out.after bx2)
      replace B := B.trans (bx2.mono B.size)
      clear bx2
      clear HS rt Y9
      cases r with
      | false =>
        have HF : Hid (winGet (.mk kl kh khi kda ks) = none) := Lib.hid (by rw [HWG.out]; rw [hk.out, ← HRR.out]; rfl)
        go_wp2_with (refine wpList_store_box (cells := #[.bool false, .int .i64 0, .bool false, .int .i64 0]) rfl 23 _ _ rfl X.out (by rfl) (by rfl) rfl (by kernel_rfl) (by simp [Value.oneCell']) ?_; intro u9 X9 st9)
        have B9 := st9.below w.heap.size w (by omega) B
        exact bodyPost_ret (v := .tuple #[.agg #[.bool false, .int .i64 0, .bool false, .int .i64 0], .int .i64 11]) (box_result2 (p := 2) (q := 3) rfl _ _ (by rfl) X9 Tryd.underlying23 rfl (by kernel_rfl)) rfl (.inr ⟨HF.out, rfl, B9⟩)
      | true =>
        have HF : Hid (winGet (.mk kl kh khi kda ks) = some x) := Lib.hid (by rw [HWG.out, hk.out, ← HRR.out]; rfl)
        go_wp2_with first | (refine wpList_load_box rfl 23 _ rfl G.out (by rfl) Tryd.underlying23 rfl (by kernel_rfl) ?_) | (refine wpList_store_box (cells := #[.bool x.p, .int .i64 x.f, .bool x.q, .int .i64 x.t]) rfl 23 _ _ rfl X.out (by rfl) (by rfl) rfl (by kernel_rfl) (by simp [Value.oneCell']) ?_; intro u9 X9 st9)
        have B9 := st9.below w.heap.size w (by omega) B
        exact bodyPost_ret (v := .tuple #[.agg #[.bool x.p, .int .i64 x.f, .bool x.q, .int .i64 x.t], .int .i64 0]) (box_result2 (p := 2) (q := 3) rfl _ _ (by rfl) X9 Tryd.underlying23 rfl (by kernel_rfl)) rfl (.inl ⟨x, HF.out, rfl, B9⟩)
    · skip
      replace hk := Lib.hid hk
      clear HKK rt
      have HF : Hid (winGet (.mk kl kh khi kda ks) = none) := Lib.hid (by rw [HWG.out]; rw [hk.out]; rfl)
      go_wp2_with (refine wpList_store_box (cells := #[.bool false, .int .i64 0, .bool false, .int .i64 0]) rfl 23 _ _ rfl X.out (by rfl) (by rfl) rfl (by kernel_rfl) (by simp [Value.oneCell']) ?_; intro u9 X9 st9)
      have B9 := st9.below w.heap.size w (by omega) B
      exact bodyPost_ret (v := .tuple #[.agg #[.bool false, .int .i64 0, .bool false, .int .i64 0], .int .i64 11]) (box_result2 (p := 2) (q := 3) rfl _ _ (by rfl) X9 Tryd.underlying23 rfl (by kernel_rfl)) rfl (.inr ⟨HF.out, rfl, B9⟩)

end Go.Proofs.YtigopfeamjhdpaaDoor

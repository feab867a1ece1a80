/- The document's Get of lists. -/
import Derived.Test.YticjhogofoffmaaDoorCrO
import Derived.Test.YticjhogofoffmaaDoorCrL
import Derived.Test.YticjhogofoffmaaDoorCr9
import Derived.Deep.CutRange
namespace Go.Proofs.YticjhogofoffmaaDoor
open Go.RowKit
set_option linter.unusedSimpArgs false
set_option linter.unusedVariables false

theorem refCrl_eq (kl kh : Bool) (khi kda : List UInt8) (k0 k1 k2 : Sx) (r : List Sx) : refCrl (.mk kl kh khi kda (k0 :: k1 :: k2 :: r)) =
    if (Sx.mk kl kh khi kda (k0 :: k1 :: k2 :: r)).may && headL (.mk kl kh khi kda (k0 :: k1 :: k2 :: r)) crL then
      if refOf k1 isL then
        match refKey (k1.ks.getD 1 Sx.nil), refEnds r with
        | some (s, l), some x => if headL k2 caL && decide (k2.ks.length ≤ 17) then (refSums k2.ks.tail).map (fun ls => ⟨s, l, ls, x⟩) else none
        | _, _ => none
      else none
    else none := by
  unfold refCrl
  simp only [show (Sx.mk kl kh khi kda (k0 :: k1 :: k2 :: r)).ks = k0 :: k1 :: k2 :: r from rfl, List.getD_cons_succ, List.getD_cons_zero, List.drop_succ_cons, List.drop_zero]
  rw [decide_eq_true (show 3 ≤ (k0 :: k1 :: k2 :: r).length by simp), Bool.and_true]
  rfl
theorem RowAt.drop3 {w : World} {b o n c : Nat} {K : Nat → SV} (h : RowAt w (some ⟨b, o, none⟩) n c K) (hn : 3 ≤ n) : RowAt w (some ⟨b, o + 15, none⟩) (n - 3) (c - 3) (fun i => K (i + 3)) := by
  obtain ⟨h1, h2, h3, h4⟩ := h
  refine ⟨by omega, by omega, (fun h => by cases h), ?_⟩
  rcases h4 with h4 | ⟨b', o', e, h4⟩
  · omega
  · cases e
    refine .inr ⟨b, o + 15, rfl, fun i hi j v hv => ?_⟩
    have := h4 (i + 3) (by omega) j v hv
    rwa [show o + (i + 3) * 5 + j = o + 15 + i * 5 + j by omega] at this
theorem Sl.back {w w' : World} {a : Option Addr} {n c : Nat} {l : List UInt8} (h : Sl w' a n c l) (hi : InB (fun b => b < w.heap.size) a n) (hb : Below w.heap.size w w') : Sl w a n c l :=
  h.keep (hi.heap fun b hb' => (hb.block b hb').symm)
def refHead (o : Option (Bool × List UInt8)) (r : Option (List (List UInt8))) : Option (List (List UInt8)) := match o with
  | some (true, l) => r.map (l :: ·)
  | _ => none
theorem refSums_drop (ks : List Sx) (k : Nat) (h : k + 1 < ks.length) : refSums (ks.tail.drop k) = refHead (refKey ks[k + 1]) (refSums (ks.tail.drop (k + 1))) := by
  rw [List.drop_eq_getElem_cons (by simp; omega), List.getElem_tail]
  rfl
theorem refHead_true (l : List UInt8) (r : Option (List (List UInt8))) (ls : List (List UInt8)) : (refHead (some (true, l)) r).map (fun z => ls ++ z) = r.map (fun z => (ls ++ [l]) ++ z) := by
  show (r.map (l :: ·)).map (fun z => ls ++ z) = _
  rw [Option.map_map]
  congr 1
  funext z
  simp
/-- what the document's Get of a list answers -/
def RCrlP (v : Sx) (w : World) (e : Ending) (w' : World) : Prop :=
  (∃ c : Cr, refCrl v = some c ∧ ∃ ka kn kc sa sn sc Z, e = .returned (.tuple #[.agg #[.bool c.s, .slice ka kn kc, .slice sa sn sc, .bool c.x.p, .int .i64 c.x.f, .bool c.x.q, .int .i64 c.x.t], .bool true]) ∧ Sl w' ka kn kc c.l ∧ RowS w' sa sn sc Z c.ls ∧ Below w.heap.size w w') ∨
  (refCrl v = none ∧ e = .returned (.tuple #[.agg #[.bool false, .slice none 0 0, .slice none 0 0, .bool false, .int .i64 0, .bool false, .int .i64 0], .bool false]) ∧ Below w.heap.size w w')
/-- the ends, told -/
def CutE (r : List Sx) (q : World) (T : TypeId) (v10 v11 : Value) (w' : World) : Prop :=
  ∃ (y : Nat) (x : W4), v10 = .pointer (some ⟨y, 0, none⟩) ∧ v11 = .bool (refEnds r).isSome ∧ (∀ z, refEnds r = some z → x = z) ∧ q.heap.size ≤ y ∧ Box w' y T #[.bool x.p, .int .i64 x.f, .bool x.q, .int .i64 x.t] ∧ Below q.heap.size q w'

set_option maxHeartbeats 16000000 in
set_option maxRecDepth 100000 in
theorem refCrlGet_any (s : Sx) (v : SV) (w : World) (hr : Rd w v s) (hnn : s.nodes < 4611686018427387904) (hdd : s.deep ≤ 4611686018427387904) (hff : s.nodes ≤ 512 → s.form.length ≤ 70368744177664) : Calls Tryd.prog 14 #[v.val] w (RCrlP s w) := by
  obtain ⟨kl, kh, khi, kda, ks⟩ := s
  have HRV := Lib.hid hr
  have HM0 := Lib.hid (fun w' h => refMay_any (.mk kl kh khi kda ks) v w' h hnn hdd hff)
  have hrI : RdI (fun b => b < w.heap.size) w v (.mk kl kh khi kda ks) := hr.there.mono (fun b hb => hb.2)
  obtain ⟨e1, e2, _, _, hn, hnc, hcm, K, hrow, hk⟩ := hrI.parts
  obtain ⟨vl, vh, va1, vn1, vc1, va2, vn2, vc2, va3, vn3, vc3⟩ := v
  replace hn : vn3 = ks.length := hn
  replace hnc : vn3 ≤ vc3 := hnc
  replace hcm : vc3 ≤ maxLen := hcm
  unfold maxLen at hcm
  replace hk : ∀ i (hi : i < ks.length), RdI (fun b => b < w.heap.size) w (K i) ks[i] := hk
  replace hrow : RowAt w va3 vn3 vc3 K := hrow
  have HN := Lib.hid hn
  have HK := Lib.hid hk
  have HROW := Lib.hid hrow
  unfold SV.val
  show Calls _ _ #[.agg #[.bool vl, .bool vh, .slice va1 vn1 vc1, .slice va2 vn2 vc2, .slice va3 vn3 vc3]] _ _
  have B : Below w.heap.size w ((w.alloc (.cells #[.bool vl, .bool vh, .slice va1 vn1 vc1, .slice va2 vn2 vc2, .slice va3 vn3 vc3] 37)).alloc (.cells #[.bool false, .slice none 0 0, .slice none 0 0, .bool false, .int .i64 0, .bool false, .int .i64 0] 29)) := ((Below.refl _ _).alloc (Nat.le_refl _) _).alloc (by simp) _
  have V : Hid (Box ((w.alloc (.cells #[.bool vl, .bool vh, .slice va1 vn1 vc1, .slice va2 vn2 vc2, .slice va3 vn3 vc3] 37)).alloc (.cells #[.bool false, .slice none 0 0, .slice none 0 0, .bool false, .int .i64 0, .bool false, .int .i64 0] 29)) w.heap.size 37 #[.bool vl, .bool vh, .slice va1 vn1 vc1, .slice va2 vn2 vc2, .slice va3 vn3 vc3]) := Lib.hid ((Box.new _ _ _).alloc _)
  have X : Hid (Box ((w.alloc (.cells #[.bool vl, .bool vh, .slice va1 vn1 vc1, .slice va2 vn2 vc2, .slice va3 vn3 vc3] 37)).alloc (.cells #[.bool false, .slice none 0 0, .slice none 0 0, .bool false, .int .i64 0, .bool false, .int .i64 0] 29)) (w.heap.size + 1) 29 #[.bool false, .slice none 0 0, .slice none 0 0, .bool false, .int .i64 0, .bool false, .int .i64 0]) := Lib.hid (by
    have := Box.new (w.alloc (.cells #[.bool vl, .bool vh, .slice va1 vn1 vc1, .slice va2 vn2 vc2, .slice va3 vn3 vc3] 37)) 29 #[.bool false, .slice none 0 0, .slice none 0 0, .bool false, .int .i64 0, .bool false, .int .i64 0]
    simpa using this)
  have C1 := Lib.hid (fun w' h => head_any (.mk kl kh khi kda ks) ⟨#[99, 114, 108]⟩ ⟨vl, vh, va1, vn1, vc1, va2, vn2, vc2, va3, vn3, vc3⟩ w' h)
  rw [headB_eq _ _ crL (by simp [crL])] at C1
  have HB0 : Hid (((Sx.mk kl kh khi kda ks).may && headL (.mk kl kh khi kda ks) crL) = false → refCrl (.mk kl kh khi kda ks) = none) := Lib.hid (fun h => by
    unfold refCrl
    rw [← Bool.and_assoc, h]
    rfl)
  have HB1 : Hid (ks.length < 3 → refCrl (.mk kl kh khi kda ks) = none) := Lib.hid (fun h => by
    unfold refCrl
    rw [decide_eq_false (show ¬ 3 ≤ (Sx.mk kl kh khi kda ks).ks.length by show ¬ 3 ≤ ks.length; omega), Bool.and_false, Bool.and_false]
    rfl)
  clear hr hrI e1 e2 hn hk hrow
  go_enter Tryd.func14, Tryd.ntmps14
  go_upto_region 1 with fail
  change Code.wp _ _ _ _ ((w.alloc (.cells #[.bool vl, .bool vh, .slice va1 vn1 vc1, .slice va2 vn2 vc2, .slice va3 vn3 vc3] 37)).alloc (.cells #[.bool false, .slice none 0 0, .slice none 0 0, .bool false, .int .i64 0, .bool false, .int .i64 0] 29))
  generalize ((w.alloc (.cells #[.bool vl, .bool vh, .slice va1 vn1 vc1, .slice va2 vn2 vc2, .slice va3 vn3 vc3] 37)).alloc (.cells #[.bool false, .slice none 0 0, .slice none 0 0, .bool false, .int .i64 0, .bool false, .int .i64 0] 29)) = x0 at *
  go_upto_region 2 with (refine wpList_store_box (cells := #[.bool false, .slice none 0 0, .slice none 0 0, .bool false, .int .i64 0, .bool false, .int .i64 0]) rfl 29 _ _ rfl (Box.new _ _ _) (by rfl) (by rfl) rfl (by kernel_rfl) (by simp [Value.oneCell']) ?_; intro u9 X9 st9)
  have hx4 : Hid (w.heap.size + 2 ≤ x0.heap.size) := Lib.hid (by have := X.out.lt; omega)
  have bs1 : Below x0.heap.size x0 u9 := st9.below x0.heap.size x0 (Nat.le_refl _) ((Below.refl _ _).alloc (Nat.le_refl _) _)
  have Z4 := Lib.hid X9
  replace V := Lib.hid (V.out.after bs1)
  replace X := Lib.hid (X.out.after bs1)
  replace B := B.trans (bs1.mono B.size)
  clear bs1 st9 X9
  generalize u9 = x1 at *
  generalize x0.heap.size = y4 at *
  generalize hmy : (Sx.mk kl kh khi kda ks).may = my at *
  replace hmy := Lib.hid hmy
  generalize hr1 : headL (Sx.mk kl kh khi kda ks) crL = r1 at *
  replace hr1 := Lib.hid hr1
  go_wp2_with (refine wpList_load_boxG 37 _ rfl V.out (by rfl) Tryd.underlying37 rfl (by kernel_rfl) rfl ?_)
  refine (HM0.out x1 (HRV.out.after B)).mono ?_
  rintro e x2 ⟨rfl, bx2⟩
  replace V := Lib.hid (V.out.after bx2)
  replace X := Lib.hid (X.out.after bx2)
  replace Z4 := Lib.hid (Z4.out.after bx2)
  replace B := B.trans (bx2.mono B.size)
  clear bx2
  cases my with
  | false =>
    have HF : Hid (refCrl (Sx.mk kl kh khi kda ks) = none) := Lib.hid (HB0.out rfl)
    go_upto_region 3 with fail
    go_wp2_with first | (refine wpList_load_boxG 29 _ rfl Z4.out (by rfl) Tryd.underlying29 rfl (by kernel_rfl) rfl ?_) | (refine wpList_store_box (cells := #[.bool false, .slice none 0 0, .slice none 0 0, .bool false, .int .i64 0, .bool false, .int .i64 0]) rfl 29 _ _ rfl X.out (by rfl) (by rfl) rfl (by kernel_rfl) (by simp [Value.oneCell']) ?_; intro u9 X9 st9)
    have B9 := st9.below w.heap.size w (by omega) B
    exact bodyPost_ret (v := .tuple #[.agg #[.bool false, .slice none 0 0, .slice none 0 0, .bool false, .int .i64 0, .bool false, .int .i64 0], .bool false]) (box_result2 (p := 2) (q := 3) rfl _ _ (by rfl) X9 Tryd.underlying29 rfl (by kernel_rfl)) rfl (.inr ⟨HF.out, rfl, B9⟩)
  | true =>
    go_wp2_with (refine wpList_load_boxG 37 _ rfl V.out (by rfl) Tryd.underlying37 rfl (by kernel_rfl) rfl ?_)
    refine (C1.out x2 (HRV.out.after B)).mono ?_
    rintro e x3 ⟨rfl, bx3⟩
    replace V := Lib.hid (V.out.after bx3)
    replace X := Lib.hid (X.out.after bx3)
    replace Z4 := Lib.hid (Z4.out.after bx3)
    replace B := B.trans (bx3.mono B.size)
    clear bx3
    have v4 := V.out.cell 4 rfl
    cases r1 with
    | false =>
      have HF : Hid (refCrl (Sx.mk kl kh khi kda ks) = none) := Lib.hid (HB0.out rfl)
      go_upto_region 3 with fail
      go_wp2_with first | (refine wpList_load_boxG 29 _ rfl Z4.out (by rfl) Tryd.underlying29 rfl (by kernel_rfl) rfl ?_) | (refine wpList_store_box (cells := #[.bool false, .slice none 0 0, .slice none 0 0, .bool false, .int .i64 0, .bool false, .int .i64 0]) rfl 29 _ _ rfl X.out (by rfl) (by rfl) rfl (by kernel_rfl) (by simp [Value.oneCell']) ?_; intro u9 X9 st9)
      have B9 := st9.below w.heap.size w (by omega) B
      exact bodyPost_ret (v := .tuple #[.agg #[.bool false, .slice none 0 0, .slice none 0 0, .bool false, .int .i64 0, .bool false, .int .i64 0], .bool false]) (box_result2 (p := 2) (q := 3) rfl _ _ (by rfl) X9 Tryd.underlying29 rfl (by kernel_rfl)) rfl (.inr ⟨HF.out, rfl, B9⟩)
    | true =>
      by_cases h3 : vn3 < 3
      case pos =>
        have h3i : (vn3 : Int) < 3 := by omega
        have HH := Lib.hid h3
        clear h3
        have HF : Hid (refCrl (Sx.mk kl kh khi kda ks) = none) := Lib.hid (HB1.out (by have := HN.out; have := HH.out; omega))
        go_upto_region 3 with fail
        go_wp2_with first | (refine wpList_load_boxG 29 _ rfl Z4.out (by rfl) Tryd.underlying29 rfl (by kernel_rfl) rfl ?_) | (refine wpList_store_box (cells := #[.bool false, .slice none 0 0, .slice none 0 0, .bool false, .int .i64 0, .bool false, .int .i64 0]) rfl 29 _ _ rfl X.out (by rfl) (by rfl) rfl (by kernel_rfl) (by simp [Value.oneCell']) ?_; intro u9 X9 st9)
        have B9 := st9.below w.heap.size w (by omega) B
        exact bodyPost_ret (v := .tuple #[.agg #[.bool false, .slice none 0 0, .slice none 0 0, .bool false, .int .i64 0, .bool false, .int .i64 0], .bool false]) (box_result2 (p := 2) (q := 3) rfl _ _ (by rfl) X9 Tryd.underlying29 rfl (by kernel_rfl)) rfl (.inr ⟨HF.out, rfl, B9⟩)
      case neg =>
        have h3i : ¬ (vn3 : Int) < 3 := by omega
        have h3j : 3 ≤ vn3 := by omega
        clear h3 HB0 HB1
        obtain ⟨k0, k1, k2, r, rfl⟩ : ∃ k0 k1 k2 r, ks = k0 :: k1 :: k2 :: r := by
          have := HN.out
          rcases ks with _ | ⟨a, _ | ⟨b, _ | ⟨c, r⟩⟩⟩
          · simp at this; omega
          · simp at this; omega
          · simp at this; omega
          · exact ⟨_, _, _, _, rfl⟩
        have R1 : Hid (RdI (fun b => b < w.heap.size) w (K 1) k1) := Lib.hid (HK.out 1 (by simp))
        have R2 : Hid (RdI (fun b => b < w.heap.size) w (K 2) k2) := Lib.hid (HK.out 2 (by simp))
        have HRC := Lib.hid (refCrl_eq kl kh khi kda k0 k1 k2 r)
        rw [hmy.out, hr1.out] at HRC
        clear hmy hr1
        obtain ⟨b, o, rfl, hl1⟩ := (HROW.out.after B).range (i := 1) (by omega)
        replace hl1 := Lib.hid hl1
        go_upto_region 4 with fail
        go_wp2_with (refine wpList_load_midW rfl 37 _ rfl b _ rfl _ _ hl1.out Tryd.underlying37 rfl (by kernel_rfl) ?_)
        refine (refOf_any (fun b => b < w.heap.size) k1 ⟨#[105, 115, 115, 117, 101, 114]⟩ isL (by simp [isL]) (K 1) x3 (R1.out.after B)).mono ?_
        rintro e z1 hP
        obtain ⟨⟨ul, uh, ua1, un1, uc1, ua2, un2, uc2, ua3, un3, uc3⟩, rfl, ru, bz1⟩ := hP.out
        clear hP hl1
        have RU := Lib.hid ru
        clear ru
        replace V := Lib.hid (V.out.after bz1)
        replace X := Lib.hid (X.out.after bz1)
        replace Z4 := Lib.hid (Z4.out.after bz1)
        replace B := B.trans (bz1.mono B.size)
        clear bz1
        go_upto_region 5 with (refine wpList_store_box (cells := #[.bool ul, .bool uh, .slice ua1 un1 uc1, .slice ua2 un2 uc2, .slice ua3 un3 uc3]) rfl 37 _ _ rfl (Box.new _ _ _) (by rfl) (by rfl) rfl (by kernel_rfl) (by simp [Value.oneCell']) ?_; intro u9 X9 st9)
        have bs4 : Below z1.heap.size z1 u9 := st9.below z1.heap.size z1 (Nat.le_refl _) ((Below.refl _ _).alloc (Nat.le_refl _) _)
        have Y5 := Lib.hid X9
        replace V := Lib.hid (V.out.after bs4)
        replace X := Lib.hid (X.out.after bs4)
        replace Z4 := Lib.hid (Z4.out.after bs4)
        replace RU := Lib.hid (RU.out.after bs4)
        replace B := B.trans (bs4.mono B.size)
        clear bs4 st9 X9
        generalize u9 = x4 at *
        generalize z1.heap.size = y5 at *
        generalize hof : refOf k1 isL = ok at *
        replace hof := Lib.hid hof
        generalize htt : (if ok = true then k1.ks.getD 1 Sx.nil else Sx.nil) = tt at *
        replace htt := Lib.hid htt
        go_wp2_with (refine wpList_load_box rfl 37 _ rfl Y5.out (by rfl) Tryd.underlying37 rfl (by kernel_rfl) ?_)
        refine (refKeyGet_any (fun b => b < w.heap.size) tt ⟨ul, uh, ua1, un1, uc1, ua2, un2, uc2, ua3, un3, uc3⟩ x4 RU.out).mono ?_
        rintro e z2 hP
        obtain ⟨ks_, ka, kn, kc, rfl, hky, bz2⟩ := hP.out
        clear hP
        have HKY : Hid (∀ s' l', refKey tt = some (s', l') → s' = ks_ ∧ Sl w ka kn kc l') := Lib.hid (fun s' l' h => ⟨(hky s' l' h).1, (hky s' l' h).2.1.back (hky s' l' h).2.2 B⟩)
        clear hky
        replace V := Lib.hid (V.out.after bz2)
        replace X := Lib.hid (X.out.after bz2)
        replace Z4 := Lib.hid (Z4.out.after bz2)
        replace RU := Lib.hid (RU.out.after bz2)
        replace Y5 := Lib.hid (Y5.out.after bz2)
        replace B := B.trans (bz2.mono B.size)
        clear bz2
        go_upto_region 6 with (refine wpList_store_box (cells := #[.bool ks_, .slice ka kn kc]) rfl 24 _ _ rfl (Box.new _ _ _) (by rfl) (by rfl) rfl (by kernel_rfl) (by simp [Value.oneCell']) ?_; intro u9 X9 st9)
        have bs5 : Below z2.heap.size z2 u9 := st9.below z2.heap.size z2 (Nat.le_refl _) ((Below.refl _ _).alloc (Nat.le_refl _) _)
        have Y7 := Lib.hid X9
        replace V := Lib.hid (V.out.after bs5)
        replace X := Lib.hid (X.out.after bs5)
        replace Z4 := Lib.hid (Z4.out.after bs5)
        replace RU := Lib.hid (RU.out.after bs5)
        replace Y5 := Lib.hid (Y5.out.after bs5)
        replace B := B.trans (bs5.mono B.size)
        clear bs5 st9 X9
        generalize u9 = x5 at *
        generalize z2.heap.size = y7 at *
        clear Y5 RU
        generalize his : (refKey tt).isSome = is at *
        replace his := Lib.hid his
        have v4 := V.out.cell 4 rfl
        have hl2 := Lib.hid ((HROW.out.after B).rangeA (i := 2) (by omega))
        generalize hk2 : K 2 = kv2 at *
        replace hk2 := Lib.hid hk2
        obtain ⟨ql, qh, qa1, qn1, qc1, qa2, qn2, qc2, qa3, qn3, qc3⟩ := kv2
        go_upto_region 7 with first | (refine wpList_load_midW rfl 37 _ rfl b _ rfl _ _ hl2.out Tryd.underlying37 rfl (by kernel_rfl) ?_) | (refine wpList_store_box (cells := #[.bool ql, .bool qh, .slice qa1 qn1 qc1, .slice qa2 qn2 qc2, .slice qa3 qn3 qc3]) rfl 37 _ _ rfl (Box.new _ _ _) (by rfl) (by rfl) rfl (by kernel_rfl) (by simp [Value.oneCell']) ?_; intro u9 X9 st9)
        have bs6 : Below x5.heap.size x5 u9 := st9.below x5.heap.size x5 (Nat.le_refl _) ((Below.refl _ _).alloc (Nat.le_refl _) _)
        have Y9 := Lib.hid X9
        replace V := Lib.hid (V.out.after bs6)
        replace X := Lib.hid (X.out.after bs6)
        replace Z4 := Lib.hid (Z4.out.after bs6)
        replace Y7 := Lib.hid (Y7.out.after bs6)
        replace B := B.trans (bs6.mono B.size)
        clear bs6 st9 X9
        generalize u9 = x6 at *
        generalize x5.heap.size = y9 at *
        clear hl2
        have v4 := V.out.cell 4 rfl
        have HRO := Lib.hid (HROW.out.after B)
        simp only [Act.put]
        go_cut [10, 11] from 49 to 55 (fun s10 s11 wx => CutE r x6 27 s10 s11 wx)
        case first =>
          by_cases hc3 : vc3 = 3
          case pos =>
            obtain rfl : vn3 = 3 := by omega
            subst hc3
            go_wp2_with fail
            refine (refEnds_any (some ⟨b, o, none⟩) 0 0 _ r x6 ⟨Nat.le_refl _, by unfold maxLen; omega, (fun h => by cases h), .inl rfl⟩ (by have := HN.out; rw [List.length_cons, List.length_cons, List.length_cons] at this; omega) (fun i hi => ((HK.out (i + 3) (by simp; omega)).after B).mono (fun _ _ => trivial))).mono ?_
            rintro e z3 ⟨x, rfl, hxx, bz3⟩
            obtain ⟨xp, xf, xq, xt⟩ := x
            dsimp only
            have HXX := Lib.hid hxx
            clear hxx
            go_wp2_with (refine wpList_store_box (cells := #[.bool xp, .int .i64 xf, .bool xq, .int .i64 xt]) rfl 27 _ _ rfl (Box.new _ _ _) (by rfl) (by rfl) rfl (by kernel_rfl) (by simp [Value.oneCell']) ?_; intro u9 X9 st9)
            have D9 : Below x6.heap.size x6 u9 := bz3.trans ((st9.below z3.heap.size z3 (Nat.le_refl _) ((Below.refl _ _).alloc (Nat.le_refl _) _)).mono bz3.size)
            go_meet
            exact ⟨_, ⟨xp, xf, xq, xt⟩, rfl, rfl, HXX.out, bz3.size, X9, D9⟩
          case neg =>
            have hc4 : (3 : Int) < vc3 := by omega
            have hn4 : (3 : Int) ≤ vn3 := by omega
            go_wp2_with fail
            refine (refEnds_any (some ⟨b, o + 15, none⟩) (vn3 - 3) (vc3 - 3) _ r x6 (HRO.out.drop3 h3j) (by have := HN.out; rw [List.length_cons, List.length_cons, List.length_cons] at this; omega) (fun i hi => ((HK.out (i + 3) (by simp; omega)).after B).mono (fun _ _ => trivial))).mono ?_
            rintro e z3 ⟨x, rfl, hxx, bz3⟩
            obtain ⟨xp, xf, xq, xt⟩ := x
            dsimp only
            have HXX := Lib.hid hxx
            clear hxx
            go_wp2_with (refine wpList_store_box (cells := #[.bool xp, .int .i64 xf, .bool xq, .int .i64 xt]) rfl 27 _ _ rfl (Box.new _ _ _) (by rfl) (by rfl) rfl (by kernel_rfl) (by simp [Value.oneCell']) ?_; intro u9 X9 st9)
            have D9 : Below x6.heap.size x6 u9 := bz3.trans ((st9.below z3.heap.size z3 (Nat.le_refl _) ((Below.refl _ _).alloc (Nat.le_refl _) _)).mono bz3.size)
            go_meet
            exact ⟨_, ⟨xp, xf, xq, xt⟩, rfl, rfl, HXX.out, bz3.size, X9, D9⟩
        case rest =>
          obtain ⟨y10, x, rfl, rfl, hxx, hyq, Y10, D⟩ := hcut
          have HXX := Lib.hid hxx
          have HYQ := Lib.hid hyq
          clear hxx hyq HRO v4
          replace Y10 := Lib.hid Y10
          replace V := Lib.hid (V.out.after D)
          replace X := Lib.hid (X.out.after D)
          replace Z4 := Lib.hid (Z4.out.after D)
          replace Y7 := Lib.hid (Y7.out.after D)
          replace Y9 := Lib.hid (Y9.out.after D)
          replace B := B.trans (D.mono B.size)
          clear D
          generalize hhas : (refEnds r).isSome = has at *
          replace hhas := Lib.hid hhas
          cases ok with
          | false =>
            have HF : Hid (refCrl (Sx.mk kl kh khi kda (k0 :: k1 :: k2 :: r)) = none) := Lib.hid (by rw [HRC.out]; rfl)
            go_upto_region 9 with fail
            go_wp2_with first | (refine wpList_load_boxG 29 _ rfl Z4.out (by rfl) Tryd.underlying29 rfl (by kernel_rfl) rfl ?_) | (refine wpList_store_box (cells := #[.bool false, .slice none 0 0, .slice none 0 0, .bool false, .int .i64 0, .bool false, .int .i64 0]) rfl 29 _ _ rfl X.out (by rfl) (by rfl) rfl (by kernel_rfl) (by simp [Value.oneCell']) ?_; intro u9 X9 st9)
            have B9 := st9.below w.heap.size w (by omega) B
            exact bodyPost_ret (v := .tuple #[.agg #[.bool false, .slice none 0 0, .slice none 0 0, .bool false, .int .i64 0, .bool false, .int .i64 0], .bool false]) (box_result2 (p := 2) (q := 3) rfl _ _ (by rfl) X9 Tryd.underlying29 rfl (by kernel_rfl)) rfl (.inr ⟨HF.out, rfl, B9⟩)
          | true =>
            rw [if_pos rfl] at htt
            rw [htt.out] at HRC
            cases is with
            | false =>
              have HK0 : refKey tt = none := by cases h : refKey tt with | none => rfl | some x => (have := his.out; rw [h] at this; cases this)
              have HK1 := Lib.hid HK0
              clear HK0
              have HF : Hid (refCrl (Sx.mk kl kh khi kda (k0 :: k1 :: k2 :: r)) = none) := Lib.hid (by rw [HRC.out, HK1.out]; rfl)
              go_upto_region 9 with fail
              go_wp2_with first | (refine wpList_load_boxG 29 _ rfl Z4.out (by rfl) Tryd.underlying29 rfl (by kernel_rfl) rfl ?_) | (refine wpList_store_box (cells := #[.bool false, .slice none 0 0, .slice none 0 0, .bool false, .int .i64 0, .bool false, .int .i64 0]) rfl 29 _ _ rfl X.out (by rfl) (by rfl) rfl (by kernel_rfl) (by simp [Value.oneCell']) ?_; intro u9 X9 st9)
              have B9 := st9.below w.heap.size w (by omega) B
              exact bodyPost_ret (v := .tuple #[.agg #[.bool false, .slice none 0 0, .slice none 0 0, .bool false, .int .i64 0, .bool false, .int .i64 0], .bool false]) (box_result2 (p := 2) (q := 3) rfl _ _ (by rfl) X9 Tryd.underlying29 rfl (by kernel_rfl)) rfl (.inr ⟨HF.out, rfl, B9⟩)
            | true =>
              obtain ⟨kl_, hkk⟩ : ∃ l, refKey tt = some (ks_, l) := by
                cases h : refKey tt with
                | none => have := his.out; rw [h] at this; cases this
                | some x => exact ⟨x.2, by rw [← (HKY.out x.1 x.2 h).1]⟩
              have HSK := Lib.hid (HKY.out _ _ hkk).2
              rw [hkk] at HRC
              have HKK := Lib.hid hkk
              clear hkk
              cases has with
              | false =>
                have HE0 : refEnds r = none := by cases h : refEnds r with | none => rfl | some x => (have := hhas.out; rw [h] at this; cases this)
                have HE1 := Lib.hid HE0
                clear HE0
                have HF : Hid (refCrl (Sx.mk kl kh khi kda (k0 :: k1 :: k2 :: r)) = none) := Lib.hid (by rw [HRC.out, HE1.out]; rfl)
                go_upto_region 9 with fail
                go_wp2_with first | (refine wpList_load_boxG 29 _ rfl Z4.out (by rfl) Tryd.underlying29 rfl (by kernel_rfl) rfl ?_) | (refine wpList_store_box (cells := #[.bool false, .slice none 0 0, .slice none 0 0, .bool false, .int .i64 0, .bool false, .int .i64 0]) rfl 29 _ _ rfl X.out (by rfl) (by rfl) rfl (by kernel_rfl) (by simp [Value.oneCell']) ?_; intro u9 X9 st9)
                have B9 := st9.below w.heap.size w (by omega) B
                exact bodyPost_ret (v := .tuple #[.agg #[.bool false, .slice none 0 0, .slice none 0 0, .bool false, .int .i64 0, .bool false, .int .i64 0], .bool false]) (box_result2 (p := 2) (q := 3) rfl _ _ (by rfl) X9 Tryd.underlying29 rfl (by kernel_rfl)) rfl (.inr ⟨HF.out, rfl, B9⟩)
              | true =>
                have HEX : Hid (refEnds r = some x) := Lib.hid (by
                  cases h : refEnds r with
                  | none => have := hhas.out; rw [h] at this; cases this
                  | some z => rw [HXX.out z h])
                rw [HEX.out] at HRC
                have HRC2 : Hid (refCrl (Sx.mk kl kh khi kda (k0 :: k1 :: k2 :: r)) = if headL k2 caL && decide (k2.ks.length ≤ 17) then (refSums k2.ks.tail).map (fun ls => ⟨ks_, kl_, ls, x⟩) else none) := HRC
                clear HRC
                have C2 := Lib.hid (fun w' h => head_any k2 ⟨#[99, 97, 110, 99, 101, 108, 101, 100]⟩ ⟨ql, qh, qa1, qn1, qc1, qa2, qn2, qc2, qa3, qn3, qc3⟩ w' h)
                rw [headB_eq _ _ caL (by simp [caL])] at C2
                generalize headL k2 caL = r2 at *
                obtain ⟨_, _, _, _, hn2, hnc2, hcm2, K2, hrow2, hk2_⟩ := R2.out.parts
                have HN2 : Hid (qn3 = k2.ks.length) := Lib.hid hn2
                have HROW2 : Hid (RowAt w qa3 qn3 qc3 K2) := Lib.hid hrow2
                have HK2 := Lib.hid hk2_
                unfold maxLen at hcm2
                replace hcm2 : qc3 ≤ 2 ^ 63 - 1 := hcm2
                replace hnc2 : qn3 ≤ qc3 := hnc2
                clear hn2 hrow2 hk2_
                cases r2 with
                | false =>
                  go_upto_region 8 with fail
                  go_step
                  refine wpList_made 21 wc.heap.size wc (Below.refl _ _) ?_
                  simp only [List.take_succ_cons, List.take_zero, List.drop_succ_cons, List.drop_zero]
                  refine wpQ_run rfl (.bool true) (fun w' hw => by simp [go_sem]) ?_
                  simp only [Act.put, List.setIfInBounds_toArray, List.set_cons_zero, List.set_cons_succ]
                  refine wpQ_run rfl (.bool false) (fun w' hw => by simp [go_sem]) ?_
                  simp only [Act.put, List.setIfInBounds_toArray, List.set_cons_zero, List.set_cons_succ]
                  refine wpQ_run rfl (.bool false) (fun w' hw => by simp [go_sem]) ?_
                  simp only [Act.put, List.setIfInBounds_toArray, List.set_cons_zero, List.set_cons_succ]
                  refine wpQ_run rfl (.bool true) (fun w' hw => by simp [go_sem]) ?_
                  simp only [Act.put, List.setIfInBounds_toArray, List.set_cons_zero, List.set_cons_succ]
                  refine wpQ_run rfl (.bool false) (fun w' hw => by simp [go_sem]) ?_
                  simp only [Act.put, List.setIfInBounds_toArray, List.set_cons_zero, List.set_cons_succ]
                  refine wpQ_run rfl (.bool false) (fun w' hw => by simp [go_sem]) ?_
                  simp only [Act.put, List.setIfInBounds_toArray, List.set_cons_zero, List.set_cons_succ]
                  refine wpQ_run rfl (.bool false) (fun w' hw => by simp [go_sem]) ?_
                  simp only [Act.put, List.setIfInBounds_toArray, List.set_cons_zero, List.set_cons_succ]
                  refine wpQ_run rfl (.bool true) (fun w' hw => by simp [go_sem]) ?_
                  simp only [Act.put, List.setIfInBounds_toArray, List.set_cons_zero, List.set_cons_succ]
                  refine wpQ_run rfl (.bool false) (fun w' hw => by simp [go_sem]) ?_
                  simp only [Act.put, List.setIfInBounds_toArray, List.set_cons_zero, List.set_cons_succ]
                  refine wpQ_run rfl (.bool false) (fun w' hw => by simp [go_sem]) ?_
                  simp only [Act.put, List.setIfInBounds_toArray, List.set_cons_zero, List.set_cons_succ]
                  refine wpQ_run rfl (.bool false) (fun w' hw => by simp [go_sem]) ?_
                  simp only [Act.put, List.setIfInBounds_toArray, List.set_cons_zero, List.set_cons_succ]
                  refine wpQ_load_box rfl 37 _ rfl Y9.out (by rfl) Y9.out.lt Tryd.underlying37 rfl (by kernel_rfl) ?_
                  simp only [Act.put, List.setIfInBounds_toArray, List.set_cons_zero, List.set_cons_succ]
                  refine wpQ_callB rfl 21 #[.agg #[.bool ql, .bool qh, .slice qa1 qn1 qc1, .slice qa2 qn2 qc2, .slice qa3 qn3 qc3], .string ⟨#[99, 97, 110, 99, 101, 108, 101, 100]⟩] (fun w' => by simp [go_sem]) (.bool false) (Nat.le_refl _) (fun w' hw => C2.out w' ((R2.out.after (B.trans (hw.mono B.size))).mono (fun _ _ => trivial))) ?_
                  simp only [Act.put, List.setIfInBounds_toArray, List.set_cons_zero, List.set_cons_succ]
                  refine wpQ_run rfl (.bool true) (fun w' hw => by simp [go_sem]) ?_
                  simp only [Act.put, List.setIfInBounds_toArray, List.set_cons_zero, List.set_cons_succ]
                  refine wpQ_run rfl (.bool true) (fun w' hw => by simp [go_sem]) ?_
                  simp only [Act.put, List.setIfInBounds_toArray, List.set_cons_zero, List.set_cons_succ]
                  refine wpQ_run rfl (.bool true) (fun w' hw => by simp [go_sem]) ?_
                  simp only [Act.put, List.setIfInBounds_toArray, List.set_cons_zero, List.set_cons_succ]
                  refine wpQ_skip rfl ?_
                  simp only [Act.put, List.setIfInBounds_toArray, List.set_cons_zero, List.set_cons_succ]
                  refine wpQ_skip rfl ?_
                  simp only [Act.put, List.setIfInBounds_toArray, List.set_cons_zero, List.set_cons_succ]
                  refine wpQ_skip rfl ?_
                  simp only [Act.put, List.setIfInBounds_toArray, List.set_cons_zero, List.set_cons_succ]
                  refine wpQ_skip rfl ?_
                  simp only [Act.put, List.setIfInBounds_toArray, List.set_cons_zero, List.set_cons_succ]
                  refine wpQ_run rfl (.bool true) (fun w' hw => by simp [go_sem]) ?_
                  simp only [Act.put, List.setIfInBounds_toArray, List.set_cons_zero, List.set_cons_succ]
                  intro w81 hb81
                  replace V := Lib.hid (V.out.after hb81)
                  replace X := Lib.hid (X.out.after hb81)
                  replace Z4 := Lib.hid (Z4.out.after hb81)
                  replace Y7 := Lib.hid (Y7.out.after hb81)
                  replace Y9 := Lib.hid (Y9.out.after hb81)
                  replace Y10 := Lib.hid (Y10.out.after hb81)
                  replace B := B.trans (hb81.mono B.size)
                  clear hb81
                  skip
                  have HF : Hid (refCrl (Sx.mk kl kh khi kda (k0 :: k1 :: k2 :: r)) = none) := Lib.hid (by rw [HRC2.out]; rfl)
                  go_upto_region 9 with fail
                  go_wp2_with first | (refine wpList_load_boxG 29 _ rfl Z4.out (by rfl) Tryd.underlying29 rfl (by kernel_rfl) rfl ?_) | (refine wpList_store_box (cells := #[.bool false, .slice none 0 0, .slice none 0 0, .bool false, .int .i64 0, .bool false, .int .i64 0]) rfl 29 _ _ rfl X.out (by rfl) (by rfl) rfl (by kernel_rfl) (by simp [Value.oneCell']) ?_; intro u9 X9 st9)
                  have B9 := st9.below w.heap.size w (by omega) B
                  exact bodyPost_ret (v := .tuple #[.agg #[.bool false, .slice none 0 0, .slice none 0 0, .bool false, .int .i64 0, .bool false, .int .i64 0], .bool false]) (box_result2 (p := 2) (q := 3) rfl _ _ (by rfl) X9 Tryd.underlying29 rfl (by kernel_rfl)) rfl (.inr ⟨HF.out, rfl, B9⟩)
                | true =>
                  by_cases h17 : 17 < qn3
                  case pos =>
                    have h17i : (17 : Int) < qn3 := by omega
                    have HH := Lib.hid h17
                    go_upto_region 8 with fail
                    go_step
                    refine wpList_made 21 wc.heap.size wc (Below.refl _ _) ?_
                    simp only [List.take_succ_cons, List.take_zero, List.drop_succ_cons, List.drop_zero]
                    refine wpQ_run rfl (.bool true) (fun w' hw => by simp [go_sem]) ?_
                    simp only [Act.put, List.setIfInBounds_toArray, List.set_cons_zero, List.set_cons_succ]
                    refine wpQ_run rfl (.bool false) (fun w' hw => by simp [go_sem]) ?_
                    simp only [Act.put, List.setIfInBounds_toArray, List.set_cons_zero, List.set_cons_succ]
                    refine wpQ_run rfl (.bool false) (fun w' hw => by simp [go_sem]) ?_
                    simp only [Act.put, List.setIfInBounds_toArray, List.set_cons_zero, List.set_cons_succ]
                    refine wpQ_run rfl (.bool true) (fun w' hw => by simp [go_sem]) ?_
                    simp only [Act.put, List.setIfInBounds_toArray, List.set_cons_zero, List.set_cons_succ]
                    refine wpQ_run rfl (.bool false) (fun w' hw => by simp [go_sem]) ?_
                    simp only [Act.put, List.setIfInBounds_toArray, List.set_cons_zero, List.set_cons_succ]
                    refine wpQ_run rfl (.bool false) (fun w' hw => by simp [go_sem]) ?_
                    simp only [Act.put, List.setIfInBounds_toArray, List.set_cons_zero, List.set_cons_succ]
                    refine wpQ_run rfl (.bool false) (fun w' hw => by simp [go_sem]) ?_
                    simp only [Act.put, List.setIfInBounds_toArray, List.set_cons_zero, List.set_cons_succ]
                    refine wpQ_run rfl (.bool true) (fun w' hw => by simp [go_sem]) ?_
                    simp only [Act.put, List.setIfInBounds_toArray, List.set_cons_zero, List.set_cons_succ]
                    refine wpQ_run rfl (.bool false) (fun w' hw => by simp [go_sem]) ?_
                    simp only [Act.put, List.setIfInBounds_toArray, List.set_cons_zero, List.set_cons_succ]
                    refine wpQ_run rfl (.bool false) (fun w' hw => by simp [go_sem]) ?_
                    simp only [Act.put, List.setIfInBounds_toArray, List.set_cons_zero, List.set_cons_succ]
                    refine wpQ_run rfl (.bool false) (fun w' hw => by simp [go_sem]) ?_
                    simp only [Act.put, List.setIfInBounds_toArray, List.set_cons_zero, List.set_cons_succ]
                    refine wpQ_load_box rfl 37 _ rfl Y9.out (by rfl) Y9.out.lt Tryd.underlying37 rfl (by kernel_rfl) ?_
                    simp only [Act.put, List.setIfInBounds_toArray, List.set_cons_zero, List.set_cons_succ]
                    refine wpQ_callB rfl 21 #[.agg #[.bool ql, .bool qh, .slice qa1 qn1 qc1, .slice qa2 qn2 qc2, .slice qa3 qn3 qc3], .string ⟨#[99, 97, 110, 99, 101, 108, 101, 100]⟩] (fun w' => by simp [go_sem]) (.bool true) (Nat.le_refl _) (fun w' hw => C2.out w' ((R2.out.after (B.trans (hw.mono B.size))).mono (fun _ _ => trivial))) ?_
                    simp only [Act.put, List.setIfInBounds_toArray, List.set_cons_zero, List.set_cons_succ]
                    refine wpQ_run rfl (.bool false) (fun w' hw => by simp [go_sem]) ?_
                    simp only [Act.put, List.setIfInBounds_toArray, List.set_cons_zero, List.set_cons_succ]
                    refine wpQ_run rfl (.bool false) (fun w' hw => by simp [go_sem]) ?_
                    simp only [Act.put, List.setIfInBounds_toArray, List.set_cons_zero, List.set_cons_succ]
                    refine wpQ_run rfl (.bool false) (fun w' hw => by simp [go_sem]) ?_
                    simp only [Act.put, List.setIfInBounds_toArray, List.set_cons_zero, List.set_cons_succ]
                    refine wpQ_run rfl (.pointer (some ⟨y9, 4, none⟩)) (fun w' hw => by simp [go_sem]) ?_
                    simp only [Act.put, List.setIfInBounds_toArray, List.set_cons_zero, List.set_cons_succ]
                    refine wpQ_run rfl (.slice qa3 qn3 qc3) (fun w' hw => by have := (Y9.out.after hw).cell 4 rfl; simp [go_sem, this]) ?_
                    simp only [Act.put, List.setIfInBounds_toArray, List.set_cons_zero, List.set_cons_succ]
                    refine wpQ_run rfl (.int .i64 qn3) (fun w' hw => by simp [go_sem]) ?_
                    simp only [Act.put, List.setIfInBounds_toArray, List.set_cons_zero, List.set_cons_succ]
                    refine wpQ_run rfl (.bool true) (fun w' hw => by simp [go_sem]; omega) ?_
                    simp only [Act.put, List.setIfInBounds_toArray, List.set_cons_zero, List.set_cons_succ]
                    refine wpQ_run rfl (.bool true) (fun w' hw => by simp [go_sem]) ?_
                    simp only [Act.put, List.setIfInBounds_toArray, List.set_cons_zero, List.set_cons_succ]
                    intro w81 hb81
                    replace V := Lib.hid (V.out.after hb81)
                    replace X := Lib.hid (X.out.after hb81)
                    replace Z4 := Lib.hid (Z4.out.after hb81)
                    replace Y7 := Lib.hid (Y7.out.after hb81)
                    replace Y9 := Lib.hid (Y9.out.after hb81)
                    replace Y10 := Lib.hid (Y10.out.after hb81)
                    replace B := B.trans (hb81.mono B.size)
                    clear hb81
                    skip
                    clear h17
                    have HF : Hid (refCrl (Sx.mk kl kh khi kda (k0 :: k1 :: k2 :: r)) = none) := Lib.hid (by rw [HRC2.out, decide_eq_false (by have := HN2.out; have := HH.out; omega)]; rfl)
                    go_upto_region 9 with fail
                    go_wp2_with first | (refine wpList_load_boxG 29 _ rfl Z4.out (by rfl) Tryd.underlying29 rfl (by kernel_rfl) rfl ?_) | (refine wpList_store_box (cells := #[.bool false, .slice none 0 0, .slice none 0 0, .bool false, .int .i64 0, .bool false, .int .i64 0]) rfl 29 _ _ rfl X.out (by rfl) (by rfl) rfl (by kernel_rfl) (by simp [Value.oneCell']) ?_; intro u9 X9 st9)
                    have B9 := st9.below w.heap.size w (by omega) B
                    exact bodyPost_ret (v := .tuple #[.agg #[.bool false, .slice none 0 0, .slice none 0 0, .bool false, .int .i64 0, .bool false, .int .i64 0], .bool false]) (box_result2 (p := 2) (q := 3) rfl _ _ (by rfl) X9 Tryd.underlying29 rfl (by kernel_rfl)) rfl (.inr ⟨HF.out, rfl, B9⟩)
                  case neg =>
                    go_upto_region 8 with fail
                    go_step
                    refine wpList_made 21 wc.heap.size wc (Below.refl _ _) ?_
                    simp only [List.take_succ_cons, List.take_zero, List.drop_succ_cons, List.drop_zero]
                    refine wpQ_run rfl (.bool true) (fun w' hw => by simp [go_sem]) ?_
                    simp only [Act.put, List.setIfInBounds_toArray, List.set_cons_zero, List.set_cons_succ]
                    refine wpQ_run rfl (.bool false) (fun w' hw => by simp [go_sem]) ?_
                    simp only [Act.put, List.setIfInBounds_toArray, List.set_cons_zero, List.set_cons_succ]
                    refine wpQ_run rfl (.bool false) (fun w' hw => by simp [go_sem]) ?_
                    simp only [Act.put, List.setIfInBounds_toArray, List.set_cons_zero, List.set_cons_succ]
                    refine wpQ_run rfl (.bool true) (fun w' hw => by simp [go_sem]) ?_
                    simp only [Act.put, List.setIfInBounds_toArray, List.set_cons_zero, List.set_cons_succ]
                    refine wpQ_run rfl (.bool false) (fun w' hw => by simp [go_sem]) ?_
                    simp only [Act.put, List.setIfInBounds_toArray, List.set_cons_zero, List.set_cons_succ]
                    refine wpQ_run rfl (.bool false) (fun w' hw => by simp [go_sem]) ?_
                    simp only [Act.put, List.setIfInBounds_toArray, List.set_cons_zero, List.set_cons_succ]
                    refine wpQ_run rfl (.bool false) (fun w' hw => by simp [go_sem]) ?_
                    simp only [Act.put, List.setIfInBounds_toArray, List.set_cons_zero, List.set_cons_succ]
                    refine wpQ_run rfl (.bool true) (fun w' hw => by simp [go_sem]) ?_
                    simp only [Act.put, List.setIfInBounds_toArray, List.set_cons_zero, List.set_cons_succ]
                    refine wpQ_run rfl (.bool false) (fun w' hw => by simp [go_sem]) ?_
                    simp only [Act.put, List.setIfInBounds_toArray, List.set_cons_zero, List.set_cons_succ]
                    refine wpQ_run rfl (.bool false) (fun w' hw => by simp [go_sem]) ?_
                    simp only [Act.put, List.setIfInBounds_toArray, List.set_cons_zero, List.set_cons_succ]
                    refine wpQ_run rfl (.bool false) (fun w' hw => by simp [go_sem]) ?_
                    simp only [Act.put, List.setIfInBounds_toArray, List.set_cons_zero, List.set_cons_succ]
                    refine wpQ_load_box rfl 37 _ rfl Y9.out (by rfl) Y9.out.lt Tryd.underlying37 rfl (by kernel_rfl) ?_
                    simp only [Act.put, List.setIfInBounds_toArray, List.set_cons_zero, List.set_cons_succ]
                    refine wpQ_callB rfl 21 #[.agg #[.bool ql, .bool qh, .slice qa1 qn1 qc1, .slice qa2 qn2 qc2, .slice qa3 qn3 qc3], .string ⟨#[99, 97, 110, 99, 101, 108, 101, 100]⟩] (fun w' => by simp [go_sem]) (.bool true) (Nat.le_refl _) (fun w' hw => C2.out w' ((R2.out.after (B.trans (hw.mono B.size))).mono (fun _ _ => trivial))) ?_
                    simp only [Act.put, List.setIfInBounds_toArray, List.set_cons_zero, List.set_cons_succ]
                    refine wpQ_run rfl (.bool false) (fun w' hw => by simp [go_sem]) ?_
                    simp only [Act.put, List.setIfInBounds_toArray, List.set_cons_zero, List.set_cons_succ]
                    refine wpQ_run rfl (.bool false) (fun w' hw => by simp [go_sem]) ?_
                    simp only [Act.put, List.setIfInBounds_toArray, List.set_cons_zero, List.set_cons_succ]
                    refine wpQ_run rfl (.bool false) (fun w' hw => by simp [go_sem]) ?_
                    simp only [Act.put, List.setIfInBounds_toArray, List.set_cons_zero, List.set_cons_succ]
                    refine wpQ_run rfl (.pointer (some ⟨y9, 4, none⟩)) (fun w' hw => by simp [go_sem]) ?_
                    simp only [Act.put, List.setIfInBounds_toArray, List.set_cons_zero, List.set_cons_succ]
                    refine wpQ_run rfl (.slice qa3 qn3 qc3) (fun w' hw => by have := (Y9.out.after hw).cell 4 rfl; simp [go_sem, this]) ?_
                    simp only [Act.put, List.setIfInBounds_toArray, List.set_cons_zero, List.set_cons_succ]
                    refine wpQ_run rfl (.int .i64 qn3) (fun w' hw => by simp [go_sem]) ?_
                    simp only [Act.put, List.setIfInBounds_toArray, List.set_cons_zero, List.set_cons_succ]
                    refine wpQ_run rfl (.bool false) (fun w' hw => by simp [go_sem]; omega) ?_
                    simp only [Act.put, List.setIfInBounds_toArray, List.set_cons_zero, List.set_cons_succ]
                    refine wpQ_run rfl (.bool false) (fun w' hw => by simp [go_sem]) ?_
                    simp only [Act.put, List.setIfInBounds_toArray, List.set_cons_zero, List.set_cons_succ]
                    intro w81 hb81
                    replace V := Lib.hid (V.out.after hb81)
                    replace X := Lib.hid (X.out.after hb81)
                    replace Z4 := Lib.hid (Z4.out.after hb81)
                    replace Y7 := Lib.hid (Y7.out.after hb81)
                    replace Y9 := Lib.hid (Y9.out.after hb81)
                    replace Y10 := Lib.hid (Y10.out.after hb81)
                    replace B := B.trans (hb81.mono B.size)
                    clear hb81
                    skip
                    have h17i : ¬ (17 : Int) < qn3 := by omega
                    have h17j : qn3 ≤ 17 := by omega
                    clear h17
                    have HRC3 : Hid (refCrl (Sx.mk kl kh khi kda (k0 :: k1 :: k2 :: r)) = (refSums k2.ks.tail).map (fun ls => ⟨ks_, kl_, ls, x⟩)) := Lib.hid (by rw [HRC2.out, decide_eq_true (by have := HN2.out; omega)]; rfl)
                    go_upto_region 10 with fail
                    go_upto_region 11 with first | (refine wpList_load_box rfl 24 _ rfl Y7.out (by rfl) Tryd.underlying24 rfl (by kernel_rfl) ?_) | (refine wpList_load_box rfl 27 _ rfl Y10.out (by rfl) Tryd.underlying27 rfl (by kernel_rfl) ?_) | (refine wpList_store_box (cells := #[.bool ks_, .slice ka kn kc, .slice none 0 0, .bool x.p, .int .i64 x.f, .bool x.q, .int .i64 x.t]) rfl 29 _ _ rfl (Box.new _ _ _) (by rfl) (by rfl) rfl (by kernel_rfl) (by simp [Value.oneCell']) ?_; intro u9 X9 st9)
                    have hz1 := V.out.lt
                    have hz2 := X.out.lt
                    have hz3 := Z4.out.lt
                    have hz4 := Y9.out.lt
                    have bs7 : Below w81.heap.size w81 u9 := st9.below w81.heap.size w81 (Nat.le_refl _) ((Below.refl _ _).alloc (Nat.le_refl _) _)
                    have C12 := Lib.hid X9
                    replace V := Lib.hid (V.out.after bs7)
                    replace X := Lib.hid (X.out.after bs7)
                    replace Z4 := Lib.hid (Z4.out.after bs7)
                    replace Y7 := Lib.hid (Y7.out.after bs7)
                    replace Y9 := Lib.hid (Y9.out.after bs7)
                    replace Y10 := Lib.hid (Y10.out.after bs7)
                    replace B := B.trans (bs7.mono B.size)
                    clear bs7 st9 X9
                    generalize u9 = x7 at *
                    generalize w81.heap.size = g12 at *
                    clear Y7 Y10
                    skip
                    go_wp2_with fail
                    go_loopw [13] (fun i wr => ∃ (k : Nat) (ta : Option Addr) (tc : Nat) (Z : Nat → S3) (ls : List (List UInt8)), (k = 0 ∨ k + 1 ≤ qn3) ∧ i = .int .i64 (k + 1) ∧ ls.length = k ∧ Hid (refSums k2.ks.tail = (refSums (k2.ks.tail.drop k)).map (fun z => ls ++ z)) ∧ Box wr w.heap.size 37 #[.bool vl, .bool vh, .slice va1 vn1 vc1, .slice va2 vn2 vc2, .slice (some ⟨b, o, none⟩) vn3 vc3] ∧ Box wr (w.heap.size + 1) 29 #[.bool false, .slice none 0 0, .slice none 0 0, .bool false, .int .i64 0, .bool false, .int .i64 0] ∧ Box wr y4 29 #[.bool false, .slice none 0 0, .slice none 0 0, .bool false, .int .i64 0, .bool false, .int .i64 0] ∧ Box wr y9 37 #[.bool ql, .bool qh, .slice qa1 qn1 qc1, .slice qa2 qn2 qc2, .slice qa3 qn3 qc3] ∧ Box wr g12 29 #[.bool ks_, .slice ka kn kc, .slice ta (k : Nat) tc, .bool x.p, .int .i64 x.f, .bool x.q, .int .i64 x.t] ∧ OwnG wr (g12 + 1) 1 (.slice ta k tc) k (vZ Z 0 k) ∧ Hid (∀ i (hi : i < ls.length), Sl w (Z i).a (Z i).n (Z i).c ls[i]) ∧ Below w.heap.size w wr) (fun i _ => qn3 - (intOf i).toNat)
                    case atStart => exact ⟨0, none, 0, fun _ => ⟨none, 0, 0⟩, [], .inl rfl, rfl, rfl, Lib.hid (by simp), V.out, X.out, Z4.out, Y9.out, C12.out, OwnG.nil _ _ _, Lib.hid (fun i hi => by simp at hi), B⟩
                    case round =>
                      clear V X Z4 Y9 C12 B
                      obtain ⟨k, ta, tc, Z, ls, hk1, rfl, hlen, hsum, V, X, Z4, Y9, C12, O, KD, B⟩ := hrel
                      replace V := Lib.hid V
                      replace X := Lib.hid X
                      replace Z4 := Lib.hid Z4
                      replace Y9 := Lib.hid Y9
                      replace C12 := Lib.hid C12
                      replace O := Lib.hid O
                      have hlen_ := Lib.hid hlen
                      clear hlen
                      by_cases hlt : k + 1 < qn3
                      case neg =>
                        have hlt2 : ¬ (k : Int) + 1 < (qn3 : Int) := by omega
                        have HL : Hid (refSums k2.ks.tail = some ls) := Lib.hid (by
                          rw [hsum.out, List.drop_eq_nil_of_le (by have := HN2.out; simp; omega)]
                          simp [refSums])
                        have HF : Hid (refCrl (Sx.mk kl kh khi kda (k0 :: k1 :: k2 :: r)) = some ⟨ks_, kl_, ls, x⟩) := Lib.hid (by rw [HRC3.out, HL.out]; rfl)
                        obtain ⟨ra, rc, er, RS⟩ := O.out.rowS Z ls (fun i hi => by have := vZ_get Z 0 k i hi; simpa using this) hlen_.out.symm (fun i hi => (KD.out i hi).after B)
                        cases er
                        have RS2 : Hid (RowSI (fun b => b ≠ w.heap.size + 1) wr ta k tc Z ls) := Lib.hid ⟨RS, .inr (fun b o s e => by have := O.out.lt b (by rw [e]; rfl); omega), fun i hi => (KD.out i hi).inB.mono (fun b hb => by omega)⟩
                        clear RS O KD
                        have q4 := Y9.out.cell 4 rfl
                        go_wp2_with first | (refine wpList_load_box rfl 29 _ rfl C12.out (by rfl) Tryd.underlying29 rfl (by kernel_rfl) ?_) | (refine wpList_store_box (cells := #[.bool ks_, .slice ka kn kc, .slice ta (k : Nat) tc, .bool x.p, .int .i64 x.f, .bool x.q, .int .i64 x.t]) rfl 29 _ _ rfl X.out (by rfl) (by rfl) rfl (by kernel_rfl) (by simp [Value.oneCell']) ?_; intro u9 X9 st9)
                        have B9 := st9.below w.heap.size w (by omega) B
                        have RS9 := RS2.out.keep (w' := u9) (fun b hb => st9.other b hb)
                        exact bodyPost_ret (v := .tuple #[.agg #[.bool ks_, .slice ka kn kc, .slice ta (k : Nat) tc, .bool x.p, .int .i64 x.f, .bool x.q, .int .i64 x.t], .bool true]) (box_result2 (p := 2) (q := 3) rfl _ _ (by rfl) X9 Tryd.underlying29 rfl (by kernel_rfl)) rfl (.inl ⟨⟨ks_, kl_, ls, x⟩, HF.out, ka, kn, kc, ta, k, tc, Z, rfl, HSK.out.after B9, RS9.1, B9⟩)
                      case pos =>
                        have hlt2 : (k : Int) + 1 < (qn3 : Int) := by omega
                        have hkl : k + 1 < k2.ks.length := by have := HN2.out; omega
                        have HRK := Lib.hid (HK2.out (k + 1) hkl)
                        have HDR := Lib.hid (refSums_drop k2.ks k hkl)
                        obtain ⟨b2, o2, rfl, hld⟩ := (HROW2.out.after B).range (i := k + 1) (by omega)
                        replace hld := Lib.hid hld
                        generalize (k2.ks[k + 1]'hkl) = kid at *
                        generalize (K2 (k + 1)) = kv at *
                        obtain ⟨pl, ph, pa1, pn1, pc1, pa2, pn2, pc2, pa3, pn3, pc3⟩ := kv
                        have q4 := Y9.out.cell 4 rfl
                        have hk0 : (0 : Int) ≤ (k : Int) + 1 := by omega
                        have hz0_ := V.out.lt
                        have hz1_ := X.out.lt
                        have hz2_ := Z4.out.lt
                        have hz3_ := Y9.out.lt
                        have hz4_ := C12.out.lt
                        go_wp2_with (refine wpList_load_midW rfl 37 _ rfl b2 _ rfl _ _ hld.out Tryd.underlying37 rfl (by kernel_rfl) ?_)
                        refine (refKeyGet_any (fun b => b < w.heap.size) kid ⟨pl, ph, pa1, pn1, pc1, pa2, pn2, pc2, pa3, pn3, pc3⟩ wr (HRK.out.after B)).mono ?_
                        rintro e z4 hP
                        obtain ⟨qs_, na, nn, nc, rfl, hky, bz4⟩ := hP.out
                        clear hP
                        have HKY2 : Hid (∀ s' l', refKey kid = some (s', l') → s' = qs_ ∧ Sl w na nn nc l') := Lib.hid (fun s' l' h => ⟨(hky s' l' h).1, (hky s' l' h).2.1.back (hky s' l' h).2.2 B⟩)
                        clear hky hld q4
                        replace V := Lib.hid (V.out.after bz4)
                        replace X := Lib.hid (X.out.after bz4)
                        replace Z4 := Lib.hid (Z4.out.after bz4)
                        replace Y9 := Lib.hid (Y9.out.after bz4)
                        replace C12 := Lib.hid (C12.out.after bz4)
                        replace O := Lib.hid (O.out.after bz4)
                        replace B := B.trans (bz4.mono B.size)
                        clear bz4
                        go_upto_region 15 with (refine wpList_store_box (cells := #[.bool qs_, .slice na nn nc]) rfl 24 _ _ rfl (Box.new _ _ _) (by rfl) (by rfl) rfl (by kernel_rfl) (by simp [Value.oneCell']) ?_; intro u9 X9 st9)
                        have bs8 : Below z4.heap.size z4 u9 := st9.below z4.heap.size z4 (Nat.le_refl _) ((Below.refl _ _).alloc (Nat.le_refl _) _)
                        have Y14 := Lib.hid X9
                        replace V := Lib.hid (V.out.after bs8)
                        replace X := Lib.hid (X.out.after bs8)
                        replace Z4 := Lib.hid (Z4.out.after bs8)
                        replace Y9 := Lib.hid (Y9.out.after bs8)
                        replace C12 := Lib.hid (C12.out.after bs8)
                        replace O := Lib.hid (O.out.after bs8)
                        replace B := B.trans (bs8.mono B.size)
                        clear bs8 st9 X9
                        generalize u9 = x8 at *
                        generalize z4.heap.size = y14 at *
                        generalize hgd : (refKey kid).isSome = gd at *
                        replace hgd := Lib.hid hgd
                        cases gd with
                        | false =>
                          have HK0 : refKey kid = none := by cases h : refKey kid with | none => rfl | some x => (have := hgd.out; rw [h] at this; cases this)
                          have HK3 := Lib.hid HK0
                          clear HK0
                          have HF : Hid (refCrl (Sx.mk kl kh khi kda (k0 :: k1 :: k2 :: r)) = none) := Lib.hid (by rw [HRC3.out, hsum.out, HDR.out, HK3.out]; rfl)
                          go_upto_region 16 with fail
                          go_wp2_with first | (refine wpList_load_boxG 29 _ rfl Z4.out (by rfl) Tryd.underlying29 rfl (by kernel_rfl) rfl ?_) | (refine wpList_store_box (cells := #[.bool false, .slice none 0 0, .slice none 0 0, .bool false, .int .i64 0, .bool false, .int .i64 0]) rfl 29 _ _ rfl X.out (by rfl) (by rfl) rfl (by kernel_rfl) (by simp [Value.oneCell']) ?_; intro u9 X9 st9)
                          have B9 := st9.below w.heap.size w (by omega) B
                          exact bodyPost_ret (v := .tuple #[.agg #[.bool false, .slice none 0 0, .slice none 0 0, .bool false, .int .i64 0, .bool false, .int .i64 0], .bool false]) (box_result2 (p := 2) (q := 3) rfl _ _ (by rfl) X9 Tryd.underlying29 rfl (by kernel_rfl)) rfl (.inr ⟨HF.out, rfl, B9⟩)
                        | true =>
                          obtain ⟨ql_, hqq⟩ : ∃ l, refKey kid = some (qs_, l) := by
                            cases h : refKey kid with
                            | none => have := hgd.out; rw [h] at this; cases this
                            | some x => exact ⟨x.2, by rw [← (HKY2.out x.1 x.2 h).1]⟩
                          have HQQ := Lib.hid hqq
                          clear hqq
                          have SN := Lib.hid (HKY2.out _ _ HQQ.out).2
                          have y140 := Y14.out.cell 0 rfl
                          cases qs_ with
                          | false =>
                            have HF : Hid (refCrl (Sx.mk kl kh khi kda (k0 :: k1 :: k2 :: r)) = none) := Lib.hid (by rw [HRC3.out, hsum.out, HDR.out, HQQ.out]; rfl)
                            go_upto_region 16 with fail
                            go_wp2_with first | (refine wpList_load_boxG 29 _ rfl Z4.out (by rfl) Tryd.underlying29 rfl (by kernel_rfl) rfl ?_) | (refine wpList_store_box (cells := #[.bool false, .slice none 0 0, .slice none 0 0, .bool false, .int .i64 0, .bool false, .int .i64 0]) rfl 29 _ _ rfl X.out (by rfl) (by rfl) rfl (by kernel_rfl) (by simp [Value.oneCell']) ?_; intro u9 X9 st9)
                            have B9 := st9.below w.heap.size w (by omega) B
                            exact bodyPost_ret (v := .tuple #[.agg #[.bool false, .slice none 0 0, .slice none 0 0, .bool false, .int .i64 0, .bool false, .int .i64 0], .bool false]) (box_result2 (p := 2) (q := 3) rfl _ _ (by rfl) X9 Tryd.underlying29 rfl (by kernel_rfl)) rfl (.inr ⟨HF.out, rfl, B9⟩)
                          | true =>
                            have HS2 : Hid (refSums k2.ks.tail = (refSums (k2.ks.tail.drop (k + 1))).map (fun z => (ls ++ [ql_]) ++ z)) := Lib.hid (by rw [hsum.out, HDR.out, HQQ.out, refHead_true])
                            go_upto_region 17 with fail
                            have g2 := C12.out.cell 2 rfl
                            have y141 := Y14.out.cell 1 rfl
                            have SR := Lib.hid (srcZ x8 ⟨na, nn, nc⟩)
                            have Z1 := Lib.hid (Box.new x8 22 #[.slice na nn nc])
                            have ba9 : Below x8.heap.size x8 (x8.alloc (.cells #[.slice na nn nc] 22)) := (Below.refl _ _).alloc (Nat.le_refl _) _
                            replace V := Lib.hid (V.out.after ba9)
                            replace X := Lib.hid (X.out.after ba9)
                            replace Z4 := Lib.hid (Z4.out.after ba9)
                            replace Y9 := Lib.hid (Y9.out.after ba9)
                            replace C12 := Lib.hid (C12.out.after ba9)
                            replace O := Lib.hid (O.out.after ba9)
                            replace Y14 := Lib.hid (Y14.out.after ba9)
                            replace B := B.trans (ba9.mono B.size)
                            clear ba9
                            clear Z1
                            have OL := Lib.hid O.out.lt
                            have hGl3 := C12.out.lt
                            go_upto_region 13 with (refine wpList_append_Z rfl _ _ rfl rfl O.out rfl SR.out (by omega) (by simp; simp at hGl3; omega) ?_; intro v2 w2 ho2 hg2 hw2; rw [vZ_add] at ho2; obtain ⟨ta2, tc2, rfl⟩ := ho2.shape; have Y3 := Box.grown C12.out hg2 (fun b hb e => by have := OL.out b hb; omega); have d2 := Y3.cell 2 rfl; have f2 := Y3.frozen 2)
                            have B8 : Below w.heap.size w (w2.setCell ⟨g12, 2, none⟩ (.slice ta2 (k + 1) tc2)) := (B.grown hg2 B.size (fun k hk => by have := OL.out k hk; omega)).setCell (p := ⟨g12, 2, none⟩) (by show w.heap.size ≤ g12; omega) _
                            have C128 : Box (w2.setCell ⟨g12, 2, none⟩ (.slice ta2 (k + 1) tc2)) g12 29 #[.bool ks_, .slice ka kn kc, .slice ta2 (k + 1 : Nat) tc2, .bool x.p, .int .i64 x.f, .bool x.q, .int .i64 x.t] := Y3.set 2 _
                            have V8 : Box (w2.setCell ⟨g12, 2, none⟩ (.slice ta2 (k + 1) tc2)) w.heap.size 37 #[.bool vl, .bool vh, .slice va1 vn1 vc1, .slice va2 vn2 vc2, .slice (some ⟨b, o, none⟩) vn3 vc3] := Box.far (Box.grown V.out hg2 (fun k hk => by have := OL.out k hk; omega)) ⟨g12, 2, none⟩ _ (by show w.heap.size ≠ g12; omega)
                            have X8 : Box (w2.setCell ⟨g12, 2, none⟩ (.slice ta2 (k + 1) tc2)) (w.heap.size + 1) 29 #[.bool false, .slice none 0 0, .slice none 0 0, .bool false, .int .i64 0, .bool false, .int .i64 0] := Box.far (Box.grown X.out hg2 (fun k hk => by have := OL.out k hk; omega)) ⟨g12, 2, none⟩ _ (by show (w.heap.size + 1) ≠ g12; omega)
                            have Z48 : Box (w2.setCell ⟨g12, 2, none⟩ (.slice ta2 (k + 1) tc2)) y4 29 #[.bool false, .slice none 0 0, .slice none 0 0, .bool false, .int .i64 0, .bool false, .int .i64 0] := Box.far (Box.grown Z4.out hg2 (fun k hk => by have := OL.out k hk; omega)) ⟨g12, 2, none⟩ _ (by show y4 ≠ g12; omega)
                            have Y98 : Box (w2.setCell ⟨g12, 2, none⟩ (.slice ta2 (k + 1) tc2)) y9 37 #[.bool ql, .bool qh, .slice qa1 qn1 qc1, .slice qa2 qn2 qc2, .slice (some ⟨b2, o2, none⟩) qn3 qc3] := Box.far (Box.grown Y9.out hg2 (fun k hk => by have := OL.out k hk; omega)) ⟨g12, 2, none⟩ _ (by show y9 ≠ g12; omega)
                            have O8 : OwnG (w2.setCell ⟨g12, 2, none⟩ (.slice ta2 (k + 1) tc2)) (g12 + 1) 1 (.slice ta2 (k + 1) tc2) (k + 1) (vZ (fun i => if i = k then ⟨na, nn, nc⟩ else Z i) 0 (k + 1)) := ho2.keep (by simp) (fun b hb => heap_setCell_other _ _ _ _ (by have := (ho2.lt b hb).1; show b ≠ g12; omega))
                            have KD8 : Hid (∀ i (hi : i < (ls ++ [ql_]).length), Sl w (if i = k then (⟨na, nn, nc⟩ : S3) else Z i).a (if i = k then (⟨na, nn, nc⟩ : S3) else Z i).n (if i = k then (⟨na, nn, nc⟩ : S3) else Z i).c (ls ++ [ql_])[i]) := Lib.hid (fun i hi => by
                              have hl := hlen_.out
                              by_cases hik : i = k
                              · rw [if_pos hik]
                                have e : (ls ++ [ql_])[i] = ql_ := by
                                  subst hik
                                  subst hl
                                  simp
                                rw [e]
                                exact SN.out
                              · rw [if_neg hik]
                                have hlt : i < ls.length := by simp at hi; omega
                                rw [List.getElem_append_left hlt]
                                exact KD.out i hlt)
                            have hl8 : (ls ++ [ql_]).length = k + 1 := by have := hlen_.out; simp; omega
                            clear Y3 d2 f2 ho2 hg2 hw2 V X Z4 Y9 C12 O KD SN SR OL B Y14 g2 y140 y141
                            generalize (w2.setCell ⟨g12, 2, none⟩ (.slice ta2 (k + 1) tc2)) = u8 at *
                            go_wp2_with fail
                            go_roundw
                            case rel => exact ⟨k + 1, ta2, tc2, _, ls ++ [ql_], .inr (by omega), by go_num, hl8, HS2, V8, X8, Z48, Y98, C128, O8, KD8, B8⟩
                            case measure => simp [intOf]; omega

end Go.Proofs.YticjhogofoffmaaDoor

/- The program's read of a public key's value, and of a join of one such. -/
import Derived.Test.YthmigigclmogiaaDoorSjB
namespace Go.Proofs.YthmigigclmogiaaDoor
open Go.RowKit
set_option linter.unusedSimpArgs false
set_option linter.unusedVariables false

theorem keyGet_own {l : List UInt8} (hl : l.length = 32) : keyGet (keyS false l) = some (false, l) := by
  rw [keyGet_yes (s := false) (l := l) rfl, Sx.same_refl]
  unfold keyMay
  rw [hl]
  rfl
theorem keyGet_J {dl l : List UInt8} : keyGet (li [at1 knL, at1 [49], at1 dl, keyS false l]) = none := keyGet_no (keyTry_n true false [] [] [at1 knL, at1 [49], at1 dl, keyS false l] (by simp) (by simp))
theorem rowN_nil (ok : Nat → Prop) (w : World) (Z : Nat → S3) : RowN ok w none 0 0 Z [] :=
  ⟨⟨Nat.le_refl _, Nat.zero_le _, fun _ => rfl, rfl, .inl rfl, fun i hi => by cases hi⟩, .inl rfl, fun i hi => by cases hi⟩
theorem infoJ : (Tryd.prog.info? 28).map (fun i => (i.zero, i.size)) = some (some (.agg #[.int .u8 0, .bool false, .slice none 0 0, .slice none 0 0, .int .i64 0, .slice none 0 0]), 6) := by kernel_rfl
theorem infoJb : ((Tryd.prog.info? 28).map (fun i => decide (i.bytes ≤ 1000))) = some true := by kernel_rfl
def newsOne (cs : Array Value) : List Value := cs.toList
theorem src6 {w : World} {g : Nat} {a : Option Addr} {n c : Nat} (h : Box w g 28 #[.int .u8 1, .bool false, .slice a n c, .slice none 0 0, .int .i64 0, .slice none 0 0]) : Src Tryd.prog 6 26 (.slice (some ⟨g, 0, none⟩) 1 1) 1 (newsOne #[.int .u8 1, .bool false, .slice a n c, .slice none 0 0, .int .i64 0, .slice none 0 0]) w := by
  refine Src.ofSlice _ Tryd.underlying26 _ 1 1 _ rfl (fun j u hu => ?_) (fun u hu => ?_)
  · rw [Addr.add_mid]
    refine h.cell (0 + j) ?_
    rw [Nat.zero_add]
    simpa [newsOne] using hu
  · simp only [newsOne, List.mem_cons, List.not_mem_nil, or_false] at hu
    rcases hu with rfl | rfl | rfl | rfl | rfl | rfl <;> rfl
theorem wp_store_slice {P : Program} {Q : Exit → Act → World → Prop} {o : Oper} {a : Act} {w : World} {K : Act → World → Prop} (ty : TypeId) (x y : Operand) (ho : o.op = .store ty x y)
    {b off : Nat} {p : Option Addr} {n c : Nat} (hx : a.eval x = .pointer (some ⟨b, off, none⟩)) (hy : a.eval y = .slice p n c) {u : Value} (hc : w.cell? ⟨b, off, none⟩ = some u) (hf : w.frozen? ⟨b, off, none⟩ = false) (hz : ∀ w, (sizeOf ty).run P w = .ok 1 w)
    (h : K (a.put o.dst undef) (w.setCell ⟨b, off, none⟩ (.slice p n c))) : o.wp P a w K Q := by
  unfold Oper.wp execOp
  simp only [ho, hx, hy]
  simp [go_sem, hz, hc, hf]
  exact h
set_option maxHeartbeats 16000000 in
set_option maxRecDepth 100000 in
theorem readKey_any (l : List UInt8) (v : SV) (w : World) (hr : Rd w v (keyS false l)) (hl : l.length = 32) (d : Int) : Calls Tryd.prog 25 #[v.val, .int .i64 d] w fun e w' =>
    ∃ a n c, e = .returned (.agg #[.int .u8 1, .bool false, .slice a n c, .slice none 0 0, .int .i64 0, .slice none 0 0]) ∧ Sl w' a n c l ∧ InB (fun b => w.heap.size ≤ b) a n ∧ Below w.heap.size w w' := by
  have HRV := Lib.hid hr
  have HL := Lib.hid hl
  clear hr hl
  obtain ⟨vl, vh, va1, vn1, vc1, va2, vn2, vc2, va3, vn3, vc3⟩ := v
  have B : Below w.heap.size w ((w.alloc (.cells #[.bool vl, .bool vh, .slice va1 vn1 vc1, .slice va2 vn2 vc2, .slice va3 vn3 vc3] 33)).alloc (.cells #[.int .u8 0, .bool false, .slice none 0 0, .slice none 0 0, .int .i64 0, .slice none 0 0] 28)) := ((Below.refl _ _).alloc (Nat.le_refl _) _).alloc (by simp) _
  have X : Hid (Box ((w.alloc (.cells #[.bool vl, .bool vh, .slice va1 vn1 vc1, .slice va2 vn2 vc2, .slice va3 vn3 vc3] 33)).alloc (.cells #[.int .u8 0, .bool false, .slice none 0 0, .slice none 0 0, .int .i64 0, .slice none 0 0] 28)) w.heap.size 33 #[.bool vl, .bool vh, .slice va1 vn1 vc1, .slice va2 vn2 vc2, .slice va3 vn3 vc3]) := Lib.hid ((Box.new _ _ _).alloc _)
  have Y : Hid (Box ((w.alloc (.cells #[.bool vl, .bool vh, .slice va1 vn1 vc1, .slice va2 vn2 vc2, .slice va3 vn3 vc3] 33)).alloc (.cells #[.int .u8 0, .bool false, .slice none 0 0, .slice none 0 0, .int .i64 0, .slice none 0 0] 28)) (w.heap.size + 1) 28 #[.int .u8 0, .bool false, .slice none 0 0, .slice none 0 0, .int .i64 0, .slice none 0 0]) := Lib.hid (by
    have := Box.new (w.alloc (.cells #[.bool vl, .bool vh, .slice va1 vn1 vc1, .slice va2 vn2 vc2, .slice va3 vn3 vc3] 33)) 28 #[.int .u8 0, .bool false, .slice none 0 0, .slice none 0 0, .int .i64 0, .slice none 0 0]
    simpa using this)
  unfold SV.val
  show Calls _ _ #[.agg #[.bool vl, .bool vh, .slice va1 vn1 vc1, .slice va2 vn2 vc2, .slice va3 vn3 vc3], .int .i64 d] _ _
  go_enter Tryd.func25, Tryd.ntmps25
  go_upto_region 1 with fail
  change Code.wp _ _ _ _ ((w.alloc (.cells #[.bool vl, .bool vh, .slice va1 vn1 vc1, .slice va2 vn2 vc2, .slice va3 vn3 vc3] 33)).alloc (.cells #[.int .u8 0, .bool false, .slice none 0 0, .slice none 0 0, .int .i64 0, .slice none 0 0] 28))
  generalize ((w.alloc (.cells #[.bool vl, .bool vh, .slice va1 vn1 vc1, .slice va2 vn2 vc2, .slice va3 vn3 vc3] 33)).alloc (.cells #[.int .u8 0, .bool false, .slice none 0 0, .slice none 0 0, .int .i64 0, .slice none 0 0] 28)) = x0 at *
  go_wp2_with (refine wpList_load_box rfl 33 _ rfl X.out (by rfl) Tryd.underlying33 rfl (by kernel_rfl) ?_)
  refine (keyGet_any (keyS false l) ⟨vl, vh, va1, vn1, vc1, va2, vn2, vc2, va3, vn3, vc3⟩ x0 (HRV.out.after B) 0 (keyS_wide _ _ _ (by have := HL.out; omega) (by omega))).mono ?_
  rintro e x1 (⟨s9, l9, hg, a, n, c, rfl, sl, hib, bx1⟩ | ⟨hg, _, _⟩)
  case inr =>
    rw [keyGet_own HL.out] at hg
    cases hg
  obtain ⟨rfl, rfl⟩ : false = s9 ∧ l = l9 := by rw [keyGet_own HL.out] at hg; simpa using hg
  clear hg
  have hy0 := Y.out.lt
  have SL := Lib.hid sl
  have HIB := Lib.hid hib
  clear sl hib
  replace X := Lib.hid (X.out.after bx1)
  replace Y := Lib.hid (Y.out.after bx1)
  replace B := B.trans (bx1.mono B.size)
  clear bx1
  go_upto_region 2 with (refine wpList_store_box (cells := #[.bool false, .slice a n c]) rfl 24 _ _ rfl (Box.new _ _ _) (by rfl) (by rfl) rfl (by kernel_rfl) (by simp [Value.oneCell']) ?_; intro u9 X9 st9)
  have bs2 : Below x1.heap.size x1 u9 := st9.below x1.heap.size x1 (Nat.le_refl _) ((Below.refl _ _).alloc (Nat.le_refl _) _)
  have Z := Lib.hid X9
  replace X := Lib.hid (X.out.after bs2)
  replace Y := Lib.hid (Y.out.after bs2)
  replace SL := Lib.hid (SL.out.after bs2)
  replace B := B.trans (bs2.mono B.size)
  clear bs2 st9 X9
  generalize u9 = x2 at *
  go_wp2_with first | (refine wpList_load_box rfl 24 _ rfl Z.out (by rfl) Tryd.underlying24 rfl (by kernel_rfl) ?_) | (refine wpList_store_box (cells := #[.int .u8 1, .bool false, .slice a n c, .slice none 0 0, .int .i64 0, .slice none 0 0]) rfl 28 _ _ rfl Y.out (by rfl) (by rfl) rfl (by kernel_rfl) (by simp [Value.oneCell']) ?_; intro u9 X9 st9)
  have B9 := st9.below w.heap.size w (by omega) B
  have S9 := SL.out.keep (w' := u9) (HIB.out.imp id fun h b o s e => st9.other b (by have h1 : x0.heap.size ≤ b := h b o s e; omega))
  exact bodyPost_ret (v := .agg #[.int .u8 1, .bool false, .slice a n c, .slice none 0 0, .int .i64 0, .slice none 0 0]) (box_result rfl _ _ (by rfl) X9 Tryd.underlying28 rfl (by kernel_rfl)) rfl ⟨a, n, c, rfl, S9, HIB.out.mono (fun b hb => by have h1 : x0.heap.size ≤ b := hb; show w.heap.size ≤ b; omega), B9⟩

set_option maxHeartbeats 16000000 in
set_option maxRecDepth 100000 in
theorem readJ_any (l dl : List UInt8) (v : SV) (w : World) (hr : Rd w v (li [at1 knL, at1 [49], at1 dl, keyS false l])) (hl : l.length = 32) (hd : dl.length ≤ 5000) : Calls Tryd.prog 25 #[v.val, .int .i64 1] w fun e w' =>
    ∃ u : JV, e = .returned u.val ∧ RdJ (fun _ => True) w' u (.mk 3 false [] [] 1 [.mk 1 false l [] 0 []]) ∧ u.k = 1 ∧ u.n3 = 1 ∧ Below w.heap.size w w' := by
  obtain ⟨i0, hi, hi2⟩ := Option.map_eq_some_iff.1 infoJ
  simp only [Prod.mk.injEq] at hi2
  obtain ⟨hz0, hz1⟩ := hi2
  obtain ⟨bts, hz2⟩ : ∃ bts, i0.bytes = bts := ⟨_, rfl⟩
  have hbb : bts ≤ 1000 := by
    have h := infoJb
    rw [hi, Option.map_some] at h
    have h2 := of_decide_eq_true (Option.some.inj h)
    omega
  have HRV := Lib.hid hr
  have HL := Lib.hid hl
  have HW : Hid ((li [at1 knL, at1 [49], at1 dl, keyS false l]).wide 0 = false) := Lib.hid (li_wide (by omega) (by simp) (fun k hk => by
    simp only [List.mem_cons, List.not_mem_nil, or_false] at hk
    rcases hk with rfl | rfl | rfl | rfl
    · exact at1_wide _ _ (by decide) (by omega)
    · exact at1_wide _ _ (by decide) (by omega)
    · exact at1_wide _ _ hd (by omega)
    · exact keyS_wide _ _ _ (by omega) (by omega)))
  obtain ⟨-, -, -, -, hn, hnc, hcm, K, hrow, hk⟩ := hr.parts
  obtain ⟨vl, vh, va1, vn1, vc1, va2, vn2, vc2, va3, vn3, vc3⟩ := v
  replace hn : vn3 = 4 := hn
  subst hn
  replace hnc : 4 ≤ vc3 := hnc
  replace hcm : vc3 ≤ maxLen := hcm
  unfold maxLen at hcm
  replace hrow : RowAt w va3 4 vc3 K := hrow
  have h0 : Rd w (K 0) (at1 knL) := hk 0 (by show 0 < 4; omega)
  have h1 : Rd w (K 1) (at1 [49]) := hk 1 (by show 1 < 4; omega)
  have h3 : Rd w (K 3) (keyS false l) := hk 3 (by show 3 < 4; omega)
  obtain ⟨b, o, rfl, _⟩ := hrow.range (i := 0) (by omega)
  have HROW := Lib.hid hrow
  have H0 := Lib.hid h0
  have H1 := Lib.hid h1
  have H3 := Lib.hid h3
  have hc3 : (3 : Int) < vc3 := by omega
  clear hr hl hk hrow h0 h1 h3 hd
  have B : Below w.heap.size w ((w.alloc (.cells #[.bool vl, .bool vh, .slice va1 vn1 vc1, .slice va2 vn2 vc2, .slice (some ⟨b, o, none⟩) 4 vc3] 33)).alloc (.cells #[.int .u8 0, .bool false, .slice none 0 0, .slice none 0 0, .int .i64 0, .slice none 0 0] 28)) := ((Below.refl _ _).alloc (Nat.le_refl _) _).alloc (by simp) _
  have X : Hid (Box ((w.alloc (.cells #[.bool vl, .bool vh, .slice va1 vn1 vc1, .slice va2 vn2 vc2, .slice (some ⟨b, o, none⟩) 4 vc3] 33)).alloc (.cells #[.int .u8 0, .bool false, .slice none 0 0, .slice none 0 0, .int .i64 0, .slice none 0 0] 28)) w.heap.size 33 #[.bool vl, .bool vh, .slice va1 vn1 vc1, .slice va2 vn2 vc2, .slice (some ⟨b, o, none⟩) 4 vc3]) := Lib.hid ((Box.new _ _ _).alloc _)
  have Y : Hid (Box ((w.alloc (.cells #[.bool vl, .bool vh, .slice va1 vn1 vc1, .slice va2 vn2 vc2, .slice (some ⟨b, o, none⟩) 4 vc3] 33)).alloc (.cells #[.int .u8 0, .bool false, .slice none 0 0, .slice none 0 0, .int .i64 0, .slice none 0 0] 28)) (w.heap.size + 1) 28 #[.int .u8 0, .bool false, .slice none 0 0, .slice none 0 0, .int .i64 0, .slice none 0 0]) := Lib.hid (by
    have := Box.new (w.alloc (.cells #[.bool vl, .bool vh, .slice va1 vn1 vc1, .slice va2 vn2 vc2, .slice (some ⟨b, o, none⟩) 4 vc3] 33)) 28 #[.int .u8 0, .bool false, .slice none 0 0, .slice none 0 0, .int .i64 0, .slice none 0 0]
    simpa using this)
  unfold SV.val
  show Calls _ _ #[.agg #[.bool vl, .bool vh, .slice va1 vn1 vc1, .slice va2 vn2 vc2, .slice (some ⟨b, o, none⟩) 4 vc3], .int .i64 1] _ _
  go_enter Tryd.func25, Tryd.ntmps25
  go_upto_region 1 with fail
  change Code.wp _ _ _ _ ((w.alloc (.cells #[.bool vl, .bool vh, .slice va1 vn1 vc1, .slice va2 vn2 vc2, .slice (some ⟨b, o, none⟩) 4 vc3] 33)).alloc (.cells #[.int .u8 0, .bool false, .slice none 0 0, .slice none 0 0, .int .i64 0, .slice none 0 0] 28))
  generalize ((w.alloc (.cells #[.bool vl, .bool vh, .slice va1 vn1 vc1, .slice va2 vn2 vc2, .slice (some ⟨b, o, none⟩) 4 vc3] 33)).alloc (.cells #[.int .u8 0, .bool false, .slice none 0 0, .slice none 0 0, .int .i64 0, .slice none 0 0] 28)) = x0 at *
  go_wp2_with (refine wpList_load_box rfl 33 _ rfl X.out (by rfl) Tryd.underlying33 rfl (by kernel_rfl) ?_)
  have R0 := HRV.out.after B
  have CK := keyGet_any (li [at1 knL, at1 [49], at1 dl, keyS false l]) ⟨vl, vh, va1, vn1, vc1, va2, vn2, vc2, some ⟨b, o, none⟩, 4, vc3⟩ x0 R0 0 HW.out
  refine CK.mono ?_
  rintro e x1 (⟨s9, l9, hg, _⟩ | ⟨_, rfl, bx1⟩)
  case inl =>
    rw [keyGet_J] at hg
    cases hg
  have hy0 := Y.out.lt
  replace X := Lib.hid (X.out.after bx1)
  replace Y := Lib.hid (Y.out.after bx1)
  replace B := B.trans (bx1.mono B.size)
  clear bx1
  go_upto_region 2 with (refine wpList_store_box (cells := #[.bool false, .slice none 0 0]) rfl 24 _ _ rfl (Box.new _ _ _) (by rfl) (by rfl) rfl (by kernel_rfl) (by simp [Value.oneCell']) ?_; intro u9 X9 st9)
  have bs2 : Below x1.heap.size x1 u9 := st9.below x1.heap.size x1 (Nat.le_refl _) ((Below.refl _ _).alloc (Nat.le_refl _) _)
  have Z := Lib.hid X9
  replace X := Lib.hid (X.out.after bs2)
  replace Y := Lib.hid (Y.out.after bs2)
  replace B := B.trans (bs2.mono B.size)
  clear bs2 st9 X9
  generalize u9 = x2 at *
  clear Z
  have x4 := X.out.cell 4 rfl
  have c0 : x2.cell? ⟨b, o + 3, none⟩ = some (.slice (K 0).a2 (K 0).n2 (K 0).c2) := by obtain ⟨b2, o2, e2, hl0⟩ := (HROW.out.after B).range (i := 0) (by omega); cases e2; have := hl0 3 _ rfl; rwa [show o + 0 * 5 + 3 = o + 3 by omega] at this
  have hcv := conv_sl ((H0.out.parts.2.2.2.1 : Sl w (K 0).a2 (K 0).n2 (K 0).c2 [107, 45, 111, 102, 45, 110]).after B)
  go_upto_region 18 with (refine wpList_store_box (cells := #[.int .u8 3, .bool false, .slice none 0 0, .slice none 0 0, .int .i64 0, .slice none 0 0]) rfl 28 _ _ rfl (Box.new _ _ _) (by rfl) (by rfl) rfl (by kernel_rfl) (by simp [Value.oneCell']) ?_; intro u9 X9 st9)
  clear c0 hcv x4
  have hzj : w.heap.size + 1 < x2.heap.size := Y.out.lt
  have bs3 : Below x2.heap.size x2 u9 := st9.below x2.heap.size x2 (Nat.le_refl _) ((Below.refl _ _).alloc (Nat.le_refl _) _)
  have J := Lib.hid X9
  replace X := Lib.hid (X.out.after bs3)
  replace Y := Lib.hid (Y.out.after bs3)
  replace B := B.trans (bs3.mono B.size)
  clear bs3 st9 X9
  generalize u9 = x3 at *
  generalize x2.heap.size = yj at *
  have x4 := X.out.cell 4 rfl
  have c1 : x3.cell? ⟨b, o + 8, none⟩ = some (.slice (K 1).a2 (K 1).n2 (K 1).c2) := by obtain ⟨b2, o2, e2, hl0⟩ := (HROW.out.after B).range (i := 1) (by omega); cases e2; have := hl0 3 _ rfl; rwa [show o + 1 * 5 + 3 = o + 8 by omega] at this
  have CL := getLen_any (K 1).a2 (K 1).n2 (K 1).c2 [49] 0 8 8 x3 ((H1.out.parts.2.2.2.1 : Sl w (K 1).a2 (K 1).n2 (K 1).c2 [49]).after B) (by have h1 : (K 1).n2 = 1 := (H1.out.parts.2.2.2.1 : Sl w (K 1).a2 (K 1).n2 (K 1).c2 [49]).1; omega) (by omega) (by omega) (by decide) (by omega)
  rw [show lenR [49] 0 8 = (1, 1, 0) by decide] at CL
  replace CL := Lib.hid CL
  go_wp2_with fail
  refine CL.out.mono ?_
  rintro e y1 ⟨rfl, by1⟩
  clear CL c1 x4
  replace X := Lib.hid (X.out.after by1)
  replace Y := Lib.hid (Y.out.after by1)
  replace J := Lib.hid (J.out.after by1)
  replace B := B.trans (by1.mono B.size)
  clear by1
  go_upto_region 19 with (refine wpList_store_cell rfl 3 _ _ rfl J.out 4 (k := .i64) (n := 1) rfl rfl (show 4 < 6 by decide) (fun w => by simp [go_sem]) ?_; intro u9 X9 st9)
  replace X9 : Box u9 yj 28 #[.int .u8 3, .bool false, .slice none 0 0, .slice none 0 0, .int .i64 1, .slice none 0 0] := X9
  have B9 := st9.below w.heap.size w (by omega) B
  have XX : Box u9 w.heap.size 33 #[.bool vl, .bool vh, .slice va1 vn1 vc1, .slice va2 vn2 vc2, .slice (some ⟨b, o, none⟩) 4 vc3] := (st9.other _ (by omega)).trans X.out
  have YY : Box u9 (w.heap.size + 1) 28 #[.int .u8 0, .bool false, .slice none 0 0, .slice none 0 0, .int .i64 0, .slice none 0 0] := (st9.other _ (by omega)).trans Y.out
  clear X Y J B st9
  have X := Lib.hid XX
  have Y := Lib.hid YY
  have J := Lib.hid X9
  have B := B9
  clear XX YY X9 B9
  generalize u9 = y2 at *
  have x4 := X.out.cell 4 rfl
  go_wp2_with fail
  go_loopw [81] (fun i wr => (i = .int .i64 0 ∧ wr = y2) ∨ (i = .int .i64 1 ∧ (∃ u : JV, u.k = 1 ∧ u.n3 = 1 ∧ Box wr yj 28 u.cells ∧ RdJ (fun b => b ≠ w.heap.size + 1) wr u (.mk 3 false [] [] 1 [.mk 1 false l [] 0 []]) ∧ Box wr (w.heap.size + 1) 28 #[.int .u8 0, .bool false, .slice none 0 0, .slice none 0 0, .int .i64 0, .slice none 0 0] ∧ Below w.heap.size w wr))) (fun i _ => 1 - (intOf i).toNat)
  case atStart => exact .inl ⟨rfl, rfl⟩
  case round =>
    rcases hrel with ⟨rfl, rfl⟩ | ⟨rfl, u, hu1, hu3, hj, hrd, hy, hb⟩
    · skip
      clear x4
      obtain ⟨k3, hk3⟩ : ∃ k3, k3 = K 3 := ⟨_, rfl⟩
      have HRNG : Hid (wr.rangeAt b (o + 15) (K 3).cells.toList) := Lib.hid (by obtain ⟨b2, o2, e2, hl0⟩ := (HROW.out.after B).range (i := 3) (by omega); cases e2; simpa using hl0)
      rw [← hk3] at HRNG H3
      obtain ⟨kl, kh, ka1, kn1, kc1, ka2, kn2, kc2, ka3, kn3, kc3⟩ := k3
      replace HRNG : Hid (wr.rangeAt b (o + 15) [.bool kl, .bool kh, .slice ka1 kn1 kc1, .slice ka2 kn2 kc2, .slice ka3 kn3 kc3]) := HRNG
      go_upto_region 22 with (refine wpList_load_midW rfl 33 _ rfl b _ rfl _ _ HRNG.out Tryd.underlying33 rfl (by kernel_rfl) ?_)
      have hwr := Y.out.lt
      change Code.wp _ _ _ _ (wr.alloc (.cells #[.bool kl, .bool kh, .slice ka1 kn1 kc1, .slice ka2 kn2 kc2, .slice ka3 kn3 kc3] 33))
      have Q := Lib.hid (Box.new wr 33 #[.bool kl, .bool kh, .slice ka1 kn1 kc1, .slice ka2 kn2 kc2, .slice ka3 kn3 kc3])
      have ba4 : Below wr.heap.size wr (wr.alloc (.cells #[.bool kl, .bool kh, .slice ka1 kn1 kc1, .slice ka2 kn2 kc2, .slice ka3 kn3 kc3] 33)) := (Below.refl _ _).alloc (Nat.le_refl _) _
      replace X := Lib.hid (X.out.after ba4)
      replace Y := Lib.hid (Y.out.after ba4)
      replace J := Lib.hid (J.out.after ba4)
      replace B := B.trans (ba4.mono B.size)
      clear ba4
      generalize (wr.alloc (.cells #[.bool kl, .bool kh, .slice ka1 kn1 kc1, .slice ka2 kn2 kc2, .slice ka3 kn3 kc3] 33)) = x4 at *
      generalize wr.heap.size = yq at *
      clear HRNG hk3
      have hKS : Keeps (fun w' => Box w' yj 28 #[.int .u8 3, .bool false, .slice none 0 0, .slice none 0 0, .int .i64 1, .slice none 0 0] ∧ Box w' yq 33 #[.bool kl, .bool kh, .slice ka1 kn1 kc1, .slice ka2 kn2 kc2, .slice ka3 kn3 kc3] ∧ Rd w' ⟨kl, kh, ka1, kn1, kc1, ka2, kn2, kc2, ka3, kn3, kc3⟩ (keyS false l) ∧ Box w' (w.heap.size + 1) 28 #[.int .u8 0, .bool false, .slice none 0 0, .slice none 0 0, .int .i64 0, .slice none 0 0] ∧ Below w.heap.size w w') := fun _ _ h b => ⟨h.1.after b, h.2.1.after b, h.2.2.1.after b, h.2.2.2.1.after b, h.2.2.2.2.trans (b.mono h.2.2.2.2.size)⟩
      refine wp_region_W (w := x4) [9] (fun w' => Box w' yj 28 #[.int .u8 3, .bool false, .slice none 0 0, .slice none 0 0, .int .i64 1, .slice none 0 0] ∧ Box w' yq 33 #[.bool kl, .bool kh, .slice ka1 kn1 kc1, .slice ka2 kn2 kc2, .slice ka3 kn3 kc3] ∧ Rd w' ⟨kl, kh, ka1, kn1, kc1, ka2, kn2, kc2, ka3, kn3, kc3⟩ (keyS false l) ∧ Box w' (w.heap.size + 1) 28 #[.int .u8 0, .bool false, .slice none 0 0, .slice none 0 0, .int .i64 0, .slice none 0 0] ∧ Below w.heap.size w w') rfl (hKS _ _ ⟨J.out, Q.out, H3.out.after B, Y.out, B⟩ (Below.refl _ _).drew) ?_
      refine wpW_val 0 hKS rfl (by kernel_rfl) (by kernel_rfl) (by kernel_rfl) (by kernel_rfl) rfl (fun _ _ _ _ h => h) (.pointer (some ⟨yj, 5, none⟩)) (fun w' h => by simp [go_sem]) ?_
      simp only [Act.put, List.setIfInBounds_toArray, List.set_cons_zero, List.set_cons_succ]
      refine wpW_val 1 hKS rfl (by kernel_rfl) (by kernel_rfl) (by kernel_rfl) (by kernel_rfl) rfl (fun _ _ _ _ h => h) (.slice none 0 0) (fun w' h => by simp [go_sem, h.1.cell 5 rfl]) ?_
      simp only [Act.put, List.setIfInBounds_toArray, List.set_cons_zero, List.set_cons_succ]
      refine wpW_val 2 hKS rfl (by kernel_rfl) (by kernel_rfl) (by kernel_rfl) (by kernel_rfl) rfl (fun _ _ _ _ h => h) (.agg #[.bool kl, .bool kh, .slice ka1 kn1 kc1, .slice ka2 kn2 kc2, .slice ka3 kn3 kc3]) (fun w' h => run_load_box rfl h.2.1 (by rfl) Tryd.underlying33 rfl (by kernel_rfl)) ?_
      simp only [Act.put, List.setIfInBounds_toArray, List.set_cons_zero, List.set_cons_succ]
      refine wpW_val 3 hKS rfl (by kernel_rfl) (by kernel_rfl) (by kernel_rfl) (by kernel_rfl) rfl (fun _ _ _ _ h => h) (.int .i64 1) (fun w' h => by simp [go_sem]) ?_
      simp only [Act.put, List.setIfInBounds_toArray, List.set_cons_zero, List.set_cons_succ]
      refine wpW_val 4 hKS rfl (by kernel_rfl) (by kernel_rfl) (by kernel_rfl) (by kernel_rfl) rfl (fun _ _ _ _ h => h) (.int .i64 2) (fun w' h => by simp [go_sem]; rfl) ?_
      simp only [Act.put, List.setIfInBounds_toArray, List.set_cons_zero, List.set_cons_succ]
      refine wpW_one 5 rfl (by kernel_rfl) (by kernel_rfl) rfl ?_
      intro z1 b1 s1
      refine wp_callR 25 #[.agg #[.bool kl, .bool kh, .slice ka1 kn1 kc1, .slice ka2 kn2 kc2, .slice ka3 kn3 kc3], .int .i64 2] (by simp [go_sem]) _ (readKey_any l ⟨kl, kh, ka1, kn1, kc1, ka2, kn2, kc2, ka3, kn3, kc3⟩ z1 s1.2.2.1 HL.out 2) ?_
      rintro e z2 ⟨ka, kn, kc, rfl, sl, hib, c2⟩
      refine ⟨_, rfl, hKS _ _ s1 c2, ?_⟩
      simp only [Act.put, List.setIfInBounds_toArray, List.set_cons_zero, List.set_cons_succ]
      refine wpW_one 6 rfl (by kernel_rfl) (by kernel_rfl) rfl ?_
      intro z3 b3 s3
      replace sl := sl.after b3
      refine wp_of_run (.slice (some ⟨z3.heap.size, 0, none⟩) 1 1) (z3.alloc (.cells #[.int .u8 1, .bool false, .slice ka kn kc, .slice none 0 0, .int .i64 0, .slice none 0 0] 28)) (by simp [go_sem]) ?_
      have c4 : Below z3.heap.size z3 (z3.alloc (.cells #[.int .u8 1, .bool false, .slice ka kn kc, .slice none 0 0, .int .i64 0, .slice none 0 0] 28)) := (Below.refl _ _).alloc (Nat.le_refl _) _
      have Q4 := Box.new z3 28 #[.int .u8 1, .bool false, .slice ka kn kc, .slice none 0 0, .int .i64 0, .slice none 0 0]
      replace sl := sl.after c4
      refine ⟨hKS _ _ s3 c4, ?_⟩
      simp only [Act.put, List.setIfInBounds_toArray, List.set_cons_zero, List.set_cons_succ]
      generalize (z3.alloc (.cells #[.int .u8 1, .bool false, .slice ka kn kc, .slice none 0 0, .int .i64 0, .slice none 0 0] 28)) = z4 at *
      generalize z3.heap.size = y4 at *
      refine wpW_one 7 rfl (by kernel_rfl) (by kernel_rfl) rfl ?_
      intro z5 b5 s5
      replace sl := sl.after b5
      replace Q4 := Q4.after b5
      have hz5 := s5.2.2.2.1.lt
      refine wp_append_G (B := w.heap.size + 2) _ _ 26 26 rfl 28 i0 (.agg #[.int .u8 0, .bool false, .slice none 0 0, .slice none 0 0, .int .i64 0, .slice none 0 0]) bts Tryd.underlying26 hi hz0 hz1 hz2 rfl (by decide) rfl (OwnG.nil _ _ 6) _ rfl 1 (newsOne #[.int .u8 1, .bool false, .slice ka kn kc, .slice none 0 0, .int .i64 0, .slice none 0 0]) (src6 Q4) (by unfold maxLen; omega) (by omega) (by omega) ?_
      intro v6 z6 o6 g6 n6
      have c6 : Below z5.heap.size z5 z6 := (Below.refl _ _).grown g6 (Nat.le_refl _) (fun k hk => by cases hk)
      have hib2 := s5.2.2.2.2.size
      replace sl := sl.after c6
      refine ⟨hKS _ _ s5 c6, ?_⟩
      simp only [Act.put, List.setIfInBounds_toArray, List.set_cons_zero, List.set_cons_succ]
      rcases o6.2 with ⟨_, h0⟩ | ⟨g, og, cap, rfl, hg1, hg2, hg3, hg4, hg5, hg6⟩
      · cases h0
      refine wpW_val 8 hKS rfl (by kernel_rfl) (by kernel_rfl) (by kernel_rfl) (by kernel_rfl) rfl (fun _ _ _ _ h => h) (.pointer (some ⟨yj, 5, none⟩)) (fun w' h => by simp [go_sem]) ?_
      simp only [Act.put, List.setIfInBounds_toArray, List.set_cons_zero, List.set_cons_succ]
      refine wpW_write 9 rfl (by kernel_rfl) (by kernel_rfl) rfl ?_
      intro z7 b7 s7
      have hgp := n6 g rfl
      replace sl := sl.after b7
      have hg7 : RowJ z7 (some ⟨g, og, none⟩) 1 cap (fun _ => ⟨1, false, ka, kn, kc, none, 0, 0, 0, none, 0, 0⟩) := ⟨hg3, hg4, (fun h => by cases h), .inr ⟨g, og, rfl, fun i hi j v hv => by
        obtain rfl : i = 0 := by omega
        rw [show og + 0 * 6 + j = og + j by omega]
        exact (World.cell?_of_block (a := ⟨g, og + j, none⟩) (b7.block g hg2)).trans (hg6 j v (by simpa [JV.cells, newsOne] using hv))⟩⟩
      refine wp_store_slice 26 _ _ rfl (b := yj) (off := 5) (p := some ⟨g, og, none⟩) (n := 0 + 1) (c := cap) rfl rfl (s7.1.cell 5 rfl) (s7.1.frozen 5) (fun w => by simp [go_sem]) ?_
      have X8 : Box (z7.setCell ⟨yj, 5, none⟩ (.slice (some ⟨g, og, none⟩) (0 + 1) cap)) yj 28 #[.int .u8 3, .bool false, .slice none 0 0, .slice none 0 0, .int .i64 1, .slice (some ⟨g, og, none⟩) 1 cap] := s7.1.set 5 _
      have st8 := Stored.one z7 yj 5 (.slice (some ⟨g, og, none⟩) (0 + 1) cap)
      generalize (z7.setCell ⟨yj, 5, none⟩ (.slice (some ⟨g, og, none⟩) (0 + 1) cap)) = z8 at *
      have hlj : yj < z5.heap.size := s5.1.lt
      have D8 := st8.below w.heap.size w (by omega) s7.2.2.2.2
      have Y8 : Box z8 (w.heap.size + 1) 28 #[.int .u8 0, .bool false, .slice none 0 0, .slice none 0 0, .int .i64 0, .slice none 0 0] := (st8.other _ (by omega)).trans s7.2.2.2.1
      have hnj : g ≠ yj := by rcases hgp with h | h; · cases h
                              · omega
      have hg8 := hg7.keep (w' := z8) (.inr fun b o s e => by cases e; exact st8.other g hnj)
      have sl8 := sl.keep (w' := z8) (hib.imp id fun h b o s e => st8.other b (by have h1 := h b o s e; have h2 := b1.size; have h3 : yj < z1.heap.size := s1.1.lt; omega))
      simp only [Act.put, List.setIfInBounds_toArray, List.set_cons_zero, List.set_cons_succ]
      refine wpU_done rfl (fun w9 b9 _ => ?_)
      have J9 := Lib.hid (X8.after b9)
      have Y9 := Lib.hid (Y8.after b9)
      have D9 := D8.trans (b9.mono D8.size)
      have R9 : Hid (RdJ (fun b => b ≠ w.heap.size + 1) w9 ⟨3, false, none, 0, 0, none, 0, 0, 1, some ⟨g, og, none⟩, 1, cap⟩ (.mk 3 false [] [] 1 [.mk 1 false l [] 0 []])) := Lib.hid (.mk _ [] [] [.mk 1 false l [] 0 []] (fun _ => default) _ (Sl.nil w9) (.inl rfl) (rowN_nil _ _ _) (hg8.after b9) (.inr fun b o s e => by cases e; show g ≠ w.heap.size + 1; omega) rfl (fun i hi => match i, hi with | 0, _ => .mk ⟨1, false, ka, kn, kc, none, 0, 0, 0, none, 0, 0⟩ l [] [] (fun _ => default) (fun _ => default) (sl8.after b9) (hib.imp id fun h b o s e => by have h1 := h b o s e; have h2 := s1.2.2.2.1.lt; show b ≠ w.heap.size + 1; omega) (rowN_nil _ _ _) ⟨Nat.le_refl _, Nat.zero_le _, fun _ => rfl, .inl rfl⟩ (.inl rfl) rfl (fun i hi => by cases hi) (by show (1 : Nat) < 256; omega) (by show (-9223372036854775808 : Int) ≤ 0; omega) (by show (0 : Int) ≤ 9223372036854775807; omega)) (by show (3 : Nat) < 256; omega) (by show (-9223372036854775808 : Int) ≤ 1; omega) (by show (1 : Int) ≤ 9223372036854775807; omega))
      clear hKS s1 s3 s5 s7 X8 st8 D8 Y8 hg8 sl8 hg7 sl o6 g6 n6 c6 c4 c2 b1 b3 b5 b7 b9 hib Q4 hg5 hg6 H3 X Y J Q B
      go_wp2_with fail
      go_roundw
      case rel => exact .inr ⟨by go_num, ⟨3, false, none, 0, 0, none, 0, 0, 1, some ⟨g, og, none⟩, 1, cap⟩, rfl, rfl, J9.out, R9.out, Y9.out, D9⟩
      case measure => simp [intOf]
    · skip
      replace hrd := Lib.hid hrd
      replace hj := Lib.hid hj
      replace hy := Lib.hid hy
      obtain ⟨ukd, us, ua1, un1, uc1, ua2, un2, uc2, uk, ua3, un3, uc3⟩ := u
      replace hu1 : uk = 1 := hu1
      replace hu3 : un3 = 1 := hu3
      subst hu1 hu3
      clear X Y J B x4
      replace hj : Hid (Box wr yj 28 #[.int .u8 ukd, .bool us, .slice ua1 un1 uc1, .slice ua2 un2 uc2, .int .i64 1, .slice ua3 1 uc3]) := hj
      go_wp2_with first | (refine wpList_load_box rfl 28 _ rfl hj.out (by rfl) Tryd.underlying28 rfl (by kernel_rfl) ?_) | (refine wpList_store_box (cells := #[.int .u8 ukd, .bool us, .slice ua1 un1 uc1, .slice ua2 un2 uc2, .int .i64 1, .slice ua3 1 uc3]) rfl 28 _ _ rfl hy.out (by rfl) (by rfl) rfl (by kernel_rfl) (by simp [Value.oneCell']) ?_; intro u9 X9 st9)
      have B9 := st9.below w.heap.size w (by omega) hb
      exact bodyPost_ret (v := .agg #[.int .u8 ukd, .bool us, .slice ua1 un1 uc1, .slice ua2 un2 uc2, .int .i64 1, .slice ua3 1 uc3]) (box_result rfl _ _ (by rfl) X9 Tryd.underlying28 rfl (by kernel_rfl)) rfl ⟨⟨ukd, us, ua1, un1, uc1, ua2, un2, uc2, 1, ua3, 1, uc3⟩, rfl, (hrd.out.keep (w' := u9) (fun b hb => st9.other b hb)).mono (fun _ _ => trivial), rfl, rfl, B9⟩

end Go.Proofs.YthmigigclmogiaaDoor

/- Windows put: the program's end, Put. -/
import Derived.Test.YticjhogofoffmaaDoorCrD
namespace Go.Proofs.YticjhogofoffmaaDoor
open Go.RowKit
set_option linter.unusedSimpArgs false
set_option linter.unusedVariables false

theorem datePut_yes (n : Int) (w : World) (h0 : 0 ≤ n) (h1 : n < 315569520000) : Calls Tryd.prog 65 #[.int .i64 n] w fun e w' => e = .returned (.tuple #[.string ⟨(dateL n).toArray⟩, .bool true]) ∧ Below w.heap.size w w' := by
  refine (Put_yes n w h0 h1).mono ?_
  rintro e w1 ⟨y, m, d, r, rfl, h1, h2, h3, h4, h5, h6, h7, hb⟩
  have hF : Fld (fmtD y m d r) y m d r := ⟨rfl, h1, h2, h3, h4, h5, h6⟩
  obtain ⟨e1, e2⟩ := date_fmt y m d r hF
  have e3 : dateV (fmtD y m d r) = n := by unfold dateV; rw [if_pos e1, e2, h7]
  rw [← e3, dateL_of e1]
  exact ⟨rfl, hb⟩

/-- through blocks of the call's own, but not the row's -/
def okO (p : Nat → Prop) (v : Value) : Nat → Prop := fun b => p b ∧ v.ownBlock ≠ some b
theorem src1 (w : World) (v : SV) : Src Tryd.prog 5 35 (.slice (some ⟨w.heap.size, 0, none⟩) 1 1) 1 (newsK (fun _ => v) 1) (w.alloc (.cells v.cells 37)) := by
  refine Src.ofSlice _ Tryd.underlying35 _ 1 1 _ (newsK_len _ 1) (fun j u hu => ?_) (newsK_one _ 1)
  rw [Addr.add_mid]
  refine (Box.new w 37 v.cells).cell (0 + j) ?_
  rw [Nat.zero_add]
  simpa [newsK] using hu
theorem newsK_add (K : Nat → SV) (n : Nat) (v : SV) : newsK K n ++ newsK (fun _ => v) 1 = newsK (fun i => if i = n then v else K i) (n + 1) := by
  have e : newsK (fun i => if i = n then v else K i) n = newsK K n := newsK_congr fun i h => if_neg (by omega)
  show newsK K n ++ ([] ++ v.cells.toList) = newsK _ n ++ (if n = n then v else K n).cells.toList
  rw [e, if_pos rfl, List.nil_append]
theorem own1 (w : World) (B : Nat) (hB : B ≤ w.heap.size) (v : SV) : OwnG (w.alloc (.cells v.cells 37)) B 5 (.slice (some ⟨w.heap.size, 0, none⟩) 1 1) 1 (newsK (fun _ => v) 1) := by
  have := OwnG.new w B 5 hB v.cells 37 1 1 (Nat.le_refl _) (by unfold maxLen; omega) rfl
  rwa [show v.cells.toList.take (1 * 5) = newsK (fun _ => v) 1 from rfl] at this
theorem RdI.grew {p : Nat → Prop} {own v' : Value} {u w2 : World} {v : SV} {s : Sx} (h : RdI (okO p own) u v s) (hg : u.grownBy w2 own.ownBlock) (hw : ∀ k, v'.ownBlock = some k → own.ownBlock = some k ∨ u.heap.size ≤ k) : RdI (okO p v') w2 v s :=
  (h.there.keep (fun k hk => hg.block k hk.2 (fun e => hk.1.2 e.symm))).mono (fun k hk => ⟨hk.1.1, fun e => (hw k e).elim (fun e => hk.1.2 e) (fun e => by have := hk.2; omega)⟩)
theorem rows_more {p : Nat → Prop} {n : Nat} {own v' : Value} {u w2 : World} {K : Nat → SV} {acc : List Sx} {v : SV} {s : Sx} (hn : n = acc.length)
    (hK : ∀ i (hi : i < acc.length), RdI (okO p own) u (K i) acc[i]) (hR : RdI (okO p own) u v s)
    (hg : u.grownBy w2 own.ownBlock) (hw : ∀ k, v'.ownBlock = some k → own.ownBlock = some k ∨ u.heap.size ≤ k) :
    ∀ i (hi : i < (acc ++ [s]).length), RdI (okO p v') w2 (if i = n then v else K i) (acc ++ [s])[i] := by
  intro i hi
  by_cases hia : i = n
  · rw [if_pos hia]
    have e : (acc ++ [s])[i] = s := by
      subst hia hn
      simp
    rw [e]
    exact hR.grew hg hw
  · rw [if_neg hia]
    have hlt : i < acc.length := by simp at hi; omega
    rw [List.getElem_append_left hlt]
    exact (hK i hlt).grew hg hw

set_option maxHeartbeats 8000000 in
set_option maxRecDepth 100000 in
theorem winEnd_any (word : ByteArray) (hw : word.size ≤ 1000) (n : Int) (h0 : 0 ≤ n) (h1 : n < 315569520000) (w : World) : Calls Tryd.prog 54 #[.string word, .int .i64 n] w (ValI (fun b => w.heap.size ≤ b) (endS word.data.toList n) w) := by
  have B : Below w.heap.size w (w.alloc (.cells #[.bool false, .bool false, .slice none 0 0, .slice none 0 0, .slice none 0 0] 37)) := (Below.refl _ _).alloc (Nat.le_refl _) _
  have X : Hid (Box (w.alloc (.cells #[.bool false, .bool false, .slice none 0 0, .slice none 0 0, .slice none 0 0] 37)) w.heap.size 37 #[.bool false, .bool false, .slice none 0 0, .slice none 0 0, .slice none 0 0]) := Lib.hid (Box.new _ _ _)
  have C := Lib.hid (fun w' => datePut_yes n w' h0 h1)
  have hdl := dateL_len n h0 h1
  unfold endS
  generalize dateL n = dl at *
  go_enter Tryd.func54, Tryd.ntmps54
  go_upto_region 1 with fail
  change Code.wp _ _ _ _ (w.alloc (.cells #[.bool false, .bool false, .slice none 0 0, .slice none 0 0, .slice none 0 0] 37))
  generalize (w.alloc (.cells #[.bool false, .bool false, .slice none 0 0, .slice none 0 0, .slice none 0 0] 37)) = x0 at *
  go_wp2_with fail
  refine (C.out x0).mono ?_
  rintro e x1 ⟨rfl, bx1⟩
  replace X := Lib.hid (X.out.after bx1)
  replace B := B.trans (bx1.mono B.size)
  clear bx1
  clear C
  go_wp2_with fail
  refine (atomI_any (fun b => w.heap.size ≤ b ∧ b ≠ w.heap.size) word (by omega) x1 (fun b hb => by have := X.out.lt; omega)).mono ?_
  rintro e x2 ⟨⟨pl, ph, pa1, pn1, pc1, pa2, pn2, pc2, pa3, pn3, pc3⟩, rfl, rp, bx2⟩
  replace X := Lib.hid (X.out.after bx2)
  replace B := B.trans (bx2.mono B.size)
  clear bx2
  unfold SV.val
  replace rp := Lib.hid rp
  go_wp2_with fail
  refine (atomI_any (fun b => w.heap.size ≤ b ∧ b ≠ w.heap.size) ⟨dl.toArray⟩ (by show dl.toArray.size ≤ _; simp; omega) x2 (fun b hb => by have := X.out.lt; omega)).mono ?_
  rintro e x3 ⟨⟨ql, qh, qa1, qn1, qc1, qa2, qn2, qc2, qa3, qn3, qc3⟩, rfl, rq, bx3⟩
  replace X := Lib.hid (X.out.after bx3)
  replace rp := Lib.hid (rp.out.after bx3)
  replace B := B.trans (bx3.mono B.size)
  clear bx3
  unfold SV.val
  replace rq := Lib.hid rq
  have row := Lib.hid (row_two x3 ⟨pl, ph, pa1, pn1, pc1, pa2, pn2, pc2, pa3, pn3, pc3⟩ ⟨ql, qh, qa1, qn1, qc1, qa2, qn2, qc2, qa3, qn3, qc3⟩ 37)
  have Y := Lib.hid (Box.new x3 37 #[.bool pl, .bool ph, .slice pa1 pn1 pc1, .slice pa2 pn2 pc2, .slice pa3 pn3 pc3, .bool ql, .bool qh, .slice qa1 qn1 qc1, .slice qa2 qn2 qc2, .slice qa3 qn3 qc3])
  have ba4 : Below x3.heap.size x3 (x3.alloc (.cells #[.bool pl, .bool ph, .slice pa1 pn1 pc1, .slice pa2 pn2 pc2, .slice pa3 pn3 pc3, .bool ql, .bool qh, .slice qa1 qn1 qc1, .slice qa2 qn2 qc2, .slice qa3 qn3 qc3] 37)) := (Below.refl _ _).alloc (Nat.le_refl _) _
  replace X := Lib.hid (X.out.after ba4)
  replace rp := Lib.hid (rp.out.after ba4)
  replace rq := Lib.hid (rq.out.after ba4)
  replace B := B.trans (ba4.mono B.size)
  clear ba4
  go_wp2_with fail
  generalize (x3.alloc (.cells #[.bool pl, .bool ph, .slice pa1 pn1 pc1, .slice pa2 pn2 pc2, .slice pa3 pn3 pc3, .bool ql, .bool qh, .slice qa1 qn1 qc1, .slice qa2 qn2 qc2, .slice qa3 qn3 qc3] 37)) = x4 at *
  refine (listI_any (fun b => w.heap.size ≤ b ∧ b ≠ w.heap.size) _ 2 2 _ [at1 word.data.toList, at1 dl] x4 row.out (by omega) rfl (fun i hi => match i, hi with | 0, _ => rp.out | 1, _ => rq.out) (fun b hb => by have := X.out.lt; omega)).mono ?_
  rintro e x5 ⟨⟨ul, uh, ua1, un1, uc1, ua2, un2, uc2, ua3, un3, uc3⟩, rfl, ru, bx5⟩
  replace X := Lib.hid (X.out.after bx5)
  replace rp := Lib.hid (rp.out.after bx5)
  replace rq := Lib.hid (rq.out.after bx5)
  replace Y := Lib.hid (Y.out.after bx5)
  replace row := Lib.hid (row.out.after bx5)
  replace B := B.trans (bx5.mono B.size)
  clear bx5
  unfold SV.val
  clear row Y rp rq
  go_wp2_with (refine wpList_store_box (cells := #[.bool ul, .bool uh, .slice ua1 un1 uc1, .slice ua2 un2 uc2, .slice ua3 un3 uc3]) rfl 37 _ _ rfl X.out (by rfl) (by rfl) rfl (by kernel_rfl) (by simp [Value.oneCell']) ?_; intro u9 X9 st9)
  have B9 := st9.below w.heap.size w (Nat.le_refl _) B
  have R9 := (ru.keep (w' := u9) (fun b hb => st9.other b hb.2)).mono (ok' := fun b => w.heap.size ≤ b) (fun _ h => h.1)
  exact bodyPost_ret (v := .agg #[.bool ul, .bool uh, .slice ua1 un1 uc1, .slice ua2 un2 uc2, .slice ua3 un3 uc3]) (box_result rfl _ _ (by rfl) X9 Tryd.underlying37 rfl (by kernel_rfl)) rfl ⟨⟨ul, uh, ua1, un1, uc1, ua2, un2, uc2, ua3, un3, uc3⟩, rfl, R9, B9⟩

/-- what putting a window answers -/
def WinP (x : W4) (w : World) (e : Ending) (w' : World) : Prop :=
  (x.may = true ∧ PutQ (winS x) (.int .i64 0) w e w') ∨ (x.may = false ∧ e = .returned (.tuple #[.agg #[.bool false, .bool false, .slice none 0 0, .slice none 0 0, .slice none 0 0], .int .i64 11]) ∧ Below w.heap.size w w')

set_option maxHeartbeats 8000000 in
set_option maxRecDepth 100000 in
theorem winPut_any (p : Bool) (f : Int) (q : Bool) (t : Int) (w : World) : Calls Tryd.prog 38 #[.agg #[.bool p, .int .i64 f, .bool q, .int .i64 t]] w (WinP ⟨p, f, q, t⟩ w) := by
  have B : Below w.heap.size w ((w.alloc (.cells #[.bool p, .int .i64 f, .bool q, .int .i64 t] 27)).alloc (.cells #[.bool false, .bool false, .slice none 0 0, .slice none 0 0, .slice none 0 0] 37)) := ((Below.refl _ _).alloc (Nat.le_refl _) _).alloc (by simp) _
  have K : Hid (Box ((w.alloc (.cells #[.bool p, .int .i64 f, .bool q, .int .i64 t] 27)).alloc (.cells #[.bool false, .bool false, .slice none 0 0, .slice none 0 0, .slice none 0 0] 37)) w.heap.size 27 #[.bool p, .int .i64 f, .bool q, .int .i64 t]) := Lib.hid ((Box.new _ _ _).alloc _)
  have X : Hid (Box ((w.alloc (.cells #[.bool p, .int .i64 f, .bool q, .int .i64 t] 27)).alloc (.cells #[.bool false, .bool false, .slice none 0 0, .slice none 0 0, .slice none 0 0] 37)) (w.heap.size + 1) 37 #[.bool false, .bool false, .slice none 0 0, .slice none 0 0, .slice none 0 0]) := Lib.hid (by
    have := Box.new (w.alloc (.cells #[.bool p, .int .i64 f, .bool q, .int .i64 t] 27)) 37 #[.bool false, .bool false, .slice none 0 0, .slice none 0 0, .slice none 0 0]
    simpa using this)
  have CM := Lib.hid (fun w' => winMay_any p f q t w')
  have HM := Lib.hid (show (W4.mk p f q t).may = winMay p f q t from rfl)
  have HI := Lib.hid ((winMay_iff ⟨p, f, q, t⟩).1)
  dsimp only at HI
  obtain ⟨r, hr⟩ : ∃ r, r = winMay p f q t := ⟨_, rfl⟩
  rw [← hr] at CM HM
  clear hr
  go_enter Tryd.func38, Tryd.ntmps38
  go_upto_region 1 with fail
  change Code.wp _ _ _ _ ((w.alloc (.cells #[.bool p, .int .i64 f, .bool q, .int .i64 t] 27)).alloc (.cells #[.bool false, .bool false, .slice none 0 0, .slice none 0 0, .slice none 0 0] 37))
  generalize ((w.alloc (.cells #[.bool p, .int .i64 f, .bool q, .int .i64 t] 27)).alloc (.cells #[.bool false, .bool false, .slice none 0 0, .slice none 0 0, .slice none 0 0] 37)) = x0 at *
  go_wp2_with (refine wpList_load_box rfl 27 _ rfl K.out (by rfl) Tryd.underlying27 rfl (by kernel_rfl) ?_)
  refine (CM.out _).mono ?_
  rintro e x1 ⟨rfl, bx1⟩
  replace K := Lib.hid (K.out.after bx1)
  replace X := Lib.hid (X.out.after bx1)
  replace B := B.trans (bx1.mono B.size)
  clear bx1
  clear CM
  cases r with
  | false =>
    go_wp2_with (refine wpList_store_box (cells := #[.bool false, .bool false, .slice none 0 0, .slice none 0 0, .slice none 0 0]) rfl 37 _ _ rfl X.out (by rfl) (by rfl) rfl (by kernel_rfl) (by simp [Value.oneCell']) ?_; intro u9 X9 st9)
    have B9 := st9.below w.heap.size w (by omega) B
    exact bodyPost_ret (v := .tuple #[.agg #[.bool false, .bool false, .slice none 0 0, .slice none 0 0, .slice none 0 0], .int .i64 11]) (box_result2 (p := 2) (q := 3) rfl _ _ (by rfl) X9 Tryd.underlying37 rfl (by kernel_rfl)) rfl (.inr ⟨HM.out, rfl, B9⟩)
  | true =>
    obtain ⟨hp, hq⟩ := HI.out HM.out
    replace hp := Lib.hid hp
    replace hq := Lib.hid hq
    clear HI
    have k0 := K.out.cell 0 rfl
    go_wp2_with fail
    clear k0
    refine (atomI_any (fun b => w.heap.size ≤ b ∧ b ≠ w.heap.size + 1) ⟨#[118, 97, 108, 105, 100]⟩ (by decide) x1 (fun b hb => by have := X.out.lt; show w.heap.size ≤ b ∧ b ≠ w.heap.size + 1; omega)).mono ?_
    rintro e x2 ⟨⟨pl, ph, pa1, pn1, pc1, pa2, pn2, pc2, pa3, pn3, pc3⟩, rfl, rp, bx2⟩
    replace K := Lib.hid (K.out.after bx2)
    replace X := Lib.hid (X.out.after bx2)
    replace B := B.trans (bx2.mono B.size)
    clear bx2
    unfold SV.val
    have O := Lib.hid (own1 x2 (w.heap.size + 2) (by have := X.out.lt; omega) ⟨pl, ph, pa1, pn1, pc1, pa2, pn2, pc2, pa3, pn3, pc3⟩)
    replace rp := rp.there
    have KD : Hid (∀ i (hi : i < [at1 vaL].length), RdI (okO (fun b => w.heap.size ≤ b ∧ b ≠ w.heap.size + 1) (.slice (some ⟨x2.heap.size, 0, none⟩) 1 1)) (x2.alloc (.cells #[.bool pl, .bool ph, .slice pa1 pn1 pc1, .slice pa2 pn2 pc2, .slice pa3 pn3 pc3] 37)) ((fun _ => (⟨pl, ph, pa1, pn1, pc1, pa2, pn2, pc2, pa3, pn3, pc3⟩ : SV)) i) [at1 vaL][i]) := Lib.hid (fun i hi => by
      have h1 := (rp.mono (ok' := okO (fun b => w.heap.size ≤ b ∧ b ≠ w.heap.size + 1) (.slice (some ⟨x2.heap.size, 0, none⟩) 1 1)) (fun k hk => ⟨hk.1, fun e => by have := hk.2; simp [Value.ownBlock] at e; omega⟩)).after (w' := (x2.alloc (.cells #[.bool pl, .bool ph, .slice pa1 pn1 pc1, .slice pa2 pn2 pc2, .slice pa3 pn3 pc3] 37))) ((Below.refl _ _).alloc (Nat.le_refl _) _)
      obtain rfl : i = 0 := by simp at hi; omega
      exact h1)
    clear rp
    have Y := Lib.hid (Box.new x2 37 #[.bool pl, .bool ph, .slice pa1 pn1 pc1, .slice pa2 pn2 pc2, .slice pa3 pn3 pc3])
    have ba3 : Below x2.heap.size x2 (x2.alloc (.cells #[.bool pl, .bool ph, .slice pa1 pn1 pc1, .slice pa2 pn2 pc2, .slice pa3 pn3 pc3] 37)) := (Below.refl _ _).alloc (Nat.le_refl _) _
    replace K := Lib.hid (K.out.after ba3)
    replace X := Lib.hid (X.out.after ba3)
    replace B := B.trans (ba3.mono B.size)
    clear ba3
    change Hid (OwnG (x2.alloc (.cells #[.bool pl, .bool ph, .slice pa1 pn1 pc1, .slice pa2 pn2 pc2, .slice pa3 pn3 pc3] 37)) _ 5 _ 1 _) at O
    go_upto_region 4 with fail
    generalize (x2.alloc (.cells #[.bool pl, .bool ph, .slice pa1 pn1 pc1, .slice pa2 pn2 pc2, .slice pa3 pn3 pc3] 37)) = x3 at *
    clear Y
    generalize x2.heap.size = B0 at *
    have k0 := K.out.cell 0 rfl
    cases p with
    | true =>
      have k1 := K.out.cell 1 rfl
      go_wp2_with fail
      clear k0 k1
      have OL := Lib.hid O.out.lt
      have hxl := X.out.lt
      have hzp : Hid (x3.heap.size = x3.heap.size) := Lib.hid rfl
      refine (winEnd_any ⟨#[110, 111, 116, 45, 98, 101, 102, 111, 114, 101]⟩ (by decide) f (by have := hp.out; simp at this; omega) (by have := hp.out; simp at this; omega) x3).mono ?_
      rintro e x4 ⟨⟨vl, vh, va1, vn1, vc1, va2, vn2, vc2, va3, vn3, vc3⟩, rfl, rv, bx4⟩
      replace K := Lib.hid (K.out.after bx4)
      replace X := Lib.hid (X.out.after bx4)
      replace O := Lib.hid (O.out.after bx4)
      replace KD := Lib.hid (fun i hi => (KD.out i hi).after bx4)
      replace B := B.trans (bx4.mono B.size)
      clear bx4
      unfold SV.val
      replace rv : Hid (RdI (okO (fun b => w.heap.size ≤ b ∧ b ≠ w.heap.size + 1) (.slice (some ⟨B0, 0, none⟩) 1 1)) x4 ⟨vl, vh, va1, vn1, vc1, va2, vn2, vc2, va3, vn3, vc3⟩ (endS nbL f)) := Lib.hid (rv.mono (fun k hk => ⟨by show w.heap.size ≤ k ∧ k ≠ w.heap.size + 1; omega, fun e => by have := OL.out k e; omega⟩))
      clear OL hzp hxl
      have SR := Lib.hid (src1 x4 ⟨vl, vh, va1, vn1, vc1, va2, vn2, vc2, va3, vn3, vc3⟩)
      have Y := Lib.hid (Box.new x4 37 #[.bool vl, .bool vh, .slice va1 vn1 vc1, .slice va2 vn2 vc2, .slice va3 vn3 vc3])
      have ba5 : Below x4.heap.size x4 (x4.alloc (.cells #[.bool vl, .bool vh, .slice va1 vn1 vc1, .slice va2 vn2 vc2, .slice va3 vn3 vc3] 37)) := (Below.refl _ _).alloc (Nat.le_refl _) _
      replace K := Lib.hid (K.out.after ba5)
      replace X := Lib.hid (X.out.after ba5)
      replace O := Lib.hid (O.out.after ba5)
      replace rv := Lib.hid (rv.out.after ba5)
      replace KD := Lib.hid (fun i hi => (KD.out i hi).after ba5)
      replace B := B.trans (ba5.mono B.size)
      clear ba5
      clear Y
      have OL := Lib.hid O.out.lt
      have hxl := X.out.lt
      go_upto_region 6 with (refine wpList_append_K rfl _ _ rfl rfl O.out rfl SR.out (by omega) (by simp; simp at hxl; omega) ?_; intro v2 w2 ho2 hg2 hw2; rw [newsK_add] at ho2; obtain ⟨ta, tc, rfl, _⟩ := ho2.row; have kn : w2.cell? ⟨w.heap.size, 2, none⟩ = some (.bool q) := (Box.grown K.out hg2 (fun k hk => by have := OL.out k hk; omega)).cell 2 rfl)
      have K2 := Lib.hid (Box.grown K.out hg2 (fun k hk => by have := OL.out k hk; omega))
      have X2 := Lib.hid (Box.grown X.out hg2 (fun k hk => by have := OL.out k hk; omega))
      have B2 := B.grown hg2 B.size (fun k hk => by have := OL.out k hk; omega)
      have KD2 := Lib.hid (rows_more rfl KD.out rv.out hg2 hw2)
      have O2 := Lib.hid ho2
      clear K X B KD O rv SR OL ho2 hg2 hw2 hxl
      have K := K2
      clear K2
      have X := X2
      clear X2
      have B := B2
      clear B2
      have KD := KD2
      clear KD2
      have O := O2
      clear O2
      have k0 := K.out.cell 0 rfl
      have k2 := K.out.cell 2 rfl
      cases q with
      | true =>
        have k3 := K.out.cell 3 rfl
        go_wp2_with fail
        clear k0 k2 k3
        have OL := Lib.hid O.out.lt
        have hxl := X.out.lt
        have hzp : Hid (w2.heap.size = w2.heap.size) := Lib.hid rfl
        refine (winEnd_any ⟨#[110, 111, 116, 45, 97, 102, 116, 101, 114]⟩ (by decide) t (by have := hq.out; simp at this; omega) (by have := hq.out; simp at this; omega) w2).mono ?_
        rintro e x6 ⟨⟨vl, vh, va1, vn1, vc1, va2, vn2, vc2, va3, vn3, vc3⟩, rfl, rv, bx6⟩
        replace K := Lib.hid (K.out.after bx6)
        replace X := Lib.hid (X.out.after bx6)
        replace O := Lib.hid (O.out.after bx6)
        replace KD := Lib.hid (fun i hi => (KD.out i hi).after bx6)
        replace B := B.trans (bx6.mono B.size)
        clear bx6
        unfold SV.val
        replace rv : Hid (RdI (okO (fun b => w.heap.size ≤ b ∧ b ≠ w.heap.size + 1) (.slice ta 2 tc)) x6 ⟨vl, vh, va1, vn1, vc1, va2, vn2, vc2, va3, vn3, vc3⟩ (endS naL t)) := Lib.hid (rv.mono (fun k hk => ⟨by show w.heap.size ≤ k ∧ k ≠ w.heap.size + 1; omega, fun e => by have := OL.out k e; omega⟩))
        clear OL hzp hxl
        have SR := Lib.hid (src1 x6 ⟨vl, vh, va1, vn1, vc1, va2, vn2, vc2, va3, vn3, vc3⟩)
        have Y := Lib.hid (Box.new x6 37 #[.bool vl, .bool vh, .slice va1 vn1 vc1, .slice va2 vn2 vc2, .slice va3 vn3 vc3])
        have ba7 : Below x6.heap.size x6 (x6.alloc (.cells #[.bool vl, .bool vh, .slice va1 vn1 vc1, .slice va2 vn2 vc2, .slice va3 vn3 vc3] 37)) := (Below.refl _ _).alloc (Nat.le_refl _) _
        replace K := Lib.hid (K.out.after ba7)
        replace X := Lib.hid (X.out.after ba7)
        replace O := Lib.hid (O.out.after ba7)
        replace rv := Lib.hid (rv.out.after ba7)
        replace KD := Lib.hid (fun i hi => (KD.out i hi).after ba7)
        replace B := B.trans (ba7.mono B.size)
        clear ba7
        clear Y
        have OL := Lib.hid O.out.lt
        have hxl := X.out.lt
        go_wp2_with (refine wpList_append_K rfl _ _ rfl rfl O.out rfl SR.out (by omega) (by simp; simp at hxl; omega) ?_; intro v3 w3 ho2 hg2 hw2; rw [newsK_add] at ho2; obtain ⟨ta3, tc3, rfl, _⟩ := ho2.row)
        have K2 := Lib.hid (Box.grown K.out hg2 (fun k hk => by have := OL.out k hk; omega))
        have X2 := Lib.hid (Box.grown X.out hg2 (fun k hk => by have := OL.out k hk; omega))
        have B2 := B.grown hg2 B.size (fun k hk => by have := OL.out k hk; omega)
        have KD2 := Lib.hid (rows_more rfl KD.out rv.out hg2 hw2)
        have O2 := Lib.hid ho2
        clear K X B KD O rv SR OL ho2 hg2 hw2 hxl
        have K := K2
        clear K2
        have X := X2
        clear X2
        have B := B2
        clear B2
        have KD := KD2
        clear KD2
        have O := O2
        clear O2
        have HR := O.out.row
        obtain ⟨ra, rc, er, hrow, hin⟩ := HR
        cases er
        refine (listI_any (fun b => w.heap.size ≤ b ∧ b ≠ w.heap.size + 1) _ 3 _ _ _ w3 hrow (by omega) rfl (fun i hi => (KD.out i hi).mono (fun k hk => hk.1)) (fun b hb => by have := X.out.lt; show w.heap.size ≤ b ∧ b ≠ w.heap.size + 1; omega)).mono ?_
        rintro e x8 ⟨⟨ul, uh, ua1, un1, uc1, ua2, un2, uc2, ua3, un3, uc3⟩, rfl, ru, bx8⟩
        replace K := Lib.hid (K.out.after bx8)
        replace X := Lib.hid (X.out.after bx8)
        replace O := Lib.hid (O.out.after bx8)
        replace KD := Lib.hid (fun i hi => (KD.out i hi).after bx8)
        replace B := B.trans (bx8.mono B.size)
        clear bx8
        unfold SV.val
        clear hrow hin KD O
        go_wp2_with (refine wpList_store_box (cells := #[.bool ul, .bool uh, .slice ua1 un1 uc1, .slice ua2 un2 uc2, .slice ua3 un3 uc3]) rfl 37 _ _ rfl X.out (by rfl) (by rfl) rfl (by kernel_rfl) (by simp [Value.oneCell']) ?_; intro u9 X9 st9)
        have B9 := st9.below w.heap.size w (by omega) B
        have R9 := (ru.keep (w' := u9) (fun b hb => st9.other b hb.2)).mono (ok' := fun b => w.heap.size ≤ b) (fun _ h => h.1)
        exact bodyPost_ret (v := .tuple #[.agg #[.bool ul, .bool uh, .slice ua1 un1 uc1, .slice ua2 un2 uc2, .slice ua3 un3 uc3], .int .i64 0]) (box_result2 (p := 2) (q := 3) rfl _ _ (by rfl) X9 Tryd.underlying37 rfl (by kernel_rfl)) rfl (.inl ⟨HM.out, ⟨ul, uh, ua1, un1, uc1, ua2, un2, uc2, ua3, un3, uc3⟩, rfl, R9, B9⟩)
      | false =>
        go_wp2_with fail
        clear k0 k2
        have HR := O.out.row
        obtain ⟨ra, rc, er, hrow, hin⟩ := HR
        cases er
        refine (listI_any (fun b => w.heap.size ≤ b ∧ b ≠ w.heap.size + 1) _ 2 _ _ _ w2 hrow (by omega) rfl (fun i hi => (KD.out i hi).mono (fun k hk => hk.1)) (fun b hb => by have := X.out.lt; show w.heap.size ≤ b ∧ b ≠ w.heap.size + 1; omega)).mono ?_
        rintro e x6 ⟨⟨ul, uh, ua1, un1, uc1, ua2, un2, uc2, ua3, un3, uc3⟩, rfl, ru, bx6⟩
        replace K := Lib.hid (K.out.after bx6)
        replace X := Lib.hid (X.out.after bx6)
        replace O := Lib.hid (O.out.after bx6)
        replace KD := Lib.hid (fun i hi => (KD.out i hi).after bx6)
        replace B := B.trans (bx6.mono B.size)
        clear bx6
        unfold SV.val
        clear hrow hin KD O
        go_wp2_with (refine wpList_store_box (cells := #[.bool ul, .bool uh, .slice ua1 un1 uc1, .slice ua2 un2 uc2, .slice ua3 un3 uc3]) rfl 37 _ _ rfl X.out (by rfl) (by rfl) rfl (by kernel_rfl) (by simp [Value.oneCell']) ?_; intro u9 X9 st9)
        have B9 := st9.below w.heap.size w (by omega) B
        have R9 := (ru.keep (w' := u9) (fun b hb => st9.other b hb.2)).mono (ok' := fun b => w.heap.size ≤ b) (fun _ h => h.1)
        exact bodyPost_ret (v := .tuple #[.agg #[.bool ul, .bool uh, .slice ua1 un1 uc1, .slice ua2 un2 uc2, .slice ua3 un3 uc3], .int .i64 0]) (box_result2 (p := 2) (q := 3) rfl _ _ (by rfl) X9 Tryd.underlying37 rfl (by kernel_rfl)) rfl (.inl ⟨HM.out, ⟨ul, uh, ua1, un1, uc1, ua2, un2, uc2, ua3, un3, uc3⟩, rfl, R9, B9⟩)
    | false =>
      have k2 := K.out.cell 2 rfl
      cases q with
      | true =>
        have k3 := K.out.cell 3 rfl
        go_wp2_with fail
        clear k0 k2 k3
        have OL := Lib.hid O.out.lt
        have hxl := X.out.lt
        have hzp : Hid (x3.heap.size = x3.heap.size) := Lib.hid rfl
        refine (winEnd_any ⟨#[110, 111, 116, 45, 97, 102, 116, 101, 114]⟩ (by decide) t (by have := hq.out; simp at this; omega) (by have := hq.out; simp at this; omega) x3).mono ?_
        rintro e x4 ⟨⟨vl, vh, va1, vn1, vc1, va2, vn2, vc2, va3, vn3, vc3⟩, rfl, rv, bx4⟩
        replace K := Lib.hid (K.out.after bx4)
        replace X := Lib.hid (X.out.after bx4)
        replace O := Lib.hid (O.out.after bx4)
        replace KD := Lib.hid (fun i hi => (KD.out i hi).after bx4)
        replace B := B.trans (bx4.mono B.size)
        clear bx4
        unfold SV.val
        replace rv : Hid (RdI (okO (fun b => w.heap.size ≤ b ∧ b ≠ w.heap.size + 1) (.slice (some ⟨B0, 0, none⟩) 1 1)) x4 ⟨vl, vh, va1, vn1, vc1, va2, vn2, vc2, va3, vn3, vc3⟩ (endS naL t)) := Lib.hid (rv.mono (fun k hk => ⟨by show w.heap.size ≤ k ∧ k ≠ w.heap.size + 1; omega, fun e => by have := OL.out k e; omega⟩))
        clear OL hzp hxl
        have SR := Lib.hid (src1 x4 ⟨vl, vh, va1, vn1, vc1, va2, vn2, vc2, va3, vn3, vc3⟩)
        have Y := Lib.hid (Box.new x4 37 #[.bool vl, .bool vh, .slice va1 vn1 vc1, .slice va2 vn2 vc2, .slice va3 vn3 vc3])
        have ba5 : Below x4.heap.size x4 (x4.alloc (.cells #[.bool vl, .bool vh, .slice va1 vn1 vc1, .slice va2 vn2 vc2, .slice va3 vn3 vc3] 37)) := (Below.refl _ _).alloc (Nat.le_refl _) _
        replace K := Lib.hid (K.out.after ba5)
        replace X := Lib.hid (X.out.after ba5)
        replace O := Lib.hid (O.out.after ba5)
        replace rv := Lib.hid (rv.out.after ba5)
        replace KD := Lib.hid (fun i hi => (KD.out i hi).after ba5)
        replace B := B.trans (ba5.mono B.size)
        clear ba5
        clear Y
        have OL := Lib.hid O.out.lt
        have hxl := X.out.lt
        go_wp2_with (refine wpList_append_K rfl _ _ rfl rfl O.out rfl SR.out (by omega) (by simp; simp at hxl; omega) ?_; intro v2 w2 ho2 hg2 hw2; rw [newsK_add] at ho2; obtain ⟨ta, tc, rfl, _⟩ := ho2.row)
        have K2 := Lib.hid (Box.grown K.out hg2 (fun k hk => by have := OL.out k hk; omega))
        have X2 := Lib.hid (Box.grown X.out hg2 (fun k hk => by have := OL.out k hk; omega))
        have B2 := B.grown hg2 B.size (fun k hk => by have := OL.out k hk; omega)
        have KD2 := Lib.hid (rows_more rfl KD.out rv.out hg2 hw2)
        have O2 := Lib.hid ho2
        clear K X B KD O rv SR OL ho2 hg2 hw2 hxl
        have K := K2
        clear K2
        have X := X2
        clear X2
        have B := B2
        clear B2
        have KD := KD2
        clear KD2
        have O := O2
        clear O2
        have HR := O.out.row
        obtain ⟨ra, rc, er, hrow, hin⟩ := HR
        cases er
        refine (listI_any (fun b => w.heap.size ≤ b ∧ b ≠ w.heap.size + 1) _ 2 _ _ _ w2 hrow (by omega) rfl (fun i hi => (KD.out i hi).mono (fun k hk => hk.1)) (fun b hb => by have := X.out.lt; show w.heap.size ≤ b ∧ b ≠ w.heap.size + 1; omega)).mono ?_
        rintro e x6 ⟨⟨ul, uh, ua1, un1, uc1, ua2, un2, uc2, ua3, un3, uc3⟩, rfl, ru, bx6⟩
        replace K := Lib.hid (K.out.after bx6)
        replace X := Lib.hid (X.out.after bx6)
        replace O := Lib.hid (O.out.after bx6)
        replace KD := Lib.hid (fun i hi => (KD.out i hi).after bx6)
        replace B := B.trans (bx6.mono B.size)
        clear bx6
        unfold SV.val
        clear hrow hin KD O
        go_wp2_with (refine wpList_store_box (cells := #[.bool ul, .bool uh, .slice ua1 un1 uc1, .slice ua2 un2 uc2, .slice ua3 un3 uc3]) rfl 37 _ _ rfl X.out (by rfl) (by rfl) rfl (by kernel_rfl) (by simp [Value.oneCell']) ?_; intro u9 X9 st9)
        have B9 := st9.below w.heap.size w (by omega) B
        have R9 := (ru.keep (w' := u9) (fun b hb => st9.other b hb.2)).mono (ok' := fun b => w.heap.size ≤ b) (fun _ h => h.1)
        exact bodyPost_ret (v := .tuple #[.agg #[.bool ul, .bool uh, .slice ua1 un1 uc1, .slice ua2 un2 uc2, .slice ua3 un3 uc3], .int .i64 0]) (box_result2 (p := 2) (q := 3) rfl _ _ (by rfl) X9 Tryd.underlying37 rfl (by kernel_rfl)) rfl (.inl ⟨HM.out, ⟨ul, uh, ua1, un1, uc1, ua2, un2, uc2, ua3, un3, uc3⟩, rfl, R9, B9⟩)
      | false =>
        go_wp2_with fail
        clear k0 k2
        have HR := O.out.row
        obtain ⟨ra, rc, er, hrow, hin⟩ := HR
        cases er
        refine (listI_any (fun b => w.heap.size ≤ b ∧ b ≠ w.heap.size + 1) _ 1 _ _ _ x3 hrow (by omega) rfl (fun i hi => (KD.out i hi).mono (fun k hk => hk.1)) (fun b hb => by have := X.out.lt; show w.heap.size ≤ b ∧ b ≠ w.heap.size + 1; omega)).mono ?_
        rintro e x4 ⟨⟨ul, uh, ua1, un1, uc1, ua2, un2, uc2, ua3, un3, uc3⟩, rfl, ru, bx4⟩
        replace K := Lib.hid (K.out.after bx4)
        replace X := Lib.hid (X.out.after bx4)
        replace O := Lib.hid (O.out.after bx4)
        replace KD := Lib.hid (fun i hi => (KD.out i hi).after bx4)
        replace B := B.trans (bx4.mono B.size)
        clear bx4
        unfold SV.val
        clear hrow hin KD O
        go_wp2_with (refine wpList_store_box (cells := #[.bool ul, .bool uh, .slice ua1 un1 uc1, .slice ua2 un2 uc2, .slice ua3 un3 uc3]) rfl 37 _ _ rfl X.out (by rfl) (by rfl) rfl (by kernel_rfl) (by simp [Value.oneCell']) ?_; intro u9 X9 st9)
        have B9 := st9.below w.heap.size w (by omega) B
        have R9 := (ru.keep (w' := u9) (fun b hb => st9.other b hb.2)).mono (ok' := fun b => w.heap.size ≤ b) (fun _ h => h.1)
        exact bodyPost_ret (v := .tuple #[.agg #[.bool ul, .bool uh, .slice ua1 un1 uc1, .slice ua2 un2 uc2, .slice ua3 un3 uc3], .int .i64 0]) (box_result2 (p := 2) (q := 3) rfl _ _ (by rfl) X9 Tryd.underlying37 rfl (by kernel_rfl)) rfl (.inl ⟨HM.out, ⟨ul, uh, ua1, un1, uc1, ua2, un2, uc2, ua3, un3, uc3⟩, rfl, R9, B9⟩)

end Go.Proofs.YticjhogofoffmaaDoor

/- The program's reader of advanced forms: a value, given what its list does. -/
import Derived.Test.YtkbblhioncecmaaDoorNtP
import Derived.Test.YtkbblhioncecmaaDoorNtF
namespace Go.Proofs.YtkbblhioncecmaaDoor
open Go.RowKit
set_option linter.unusedSimpArgs false
set_option linter.unusedVariables false

/-- a value, or a list's rest: a fault, or what is read -/
def ValN (Rel : RV → Prop) (g : Nat) (s : ByteArray) (w : World) (e : Ending) (w' : World) : Prop :=
  But (fun k => k = g) w w' ∧ ∃ r : RV, Rel r ∧ ((r.e ≠ 0 ∧ e = FaultN r.p r.e) ∨ (r.e = 0 ∧ ∃ v : SV, e = .returned v.val ∧ RdI (fun k => w.heap.size ≤ k) w' v r.v ∧ Box w' g 72 (RdN s r.p r.n)))
theorem vn_no {Rel : RV → Prop} {g : Nat} {s : ByteArray} {p e : Nat} (h : Rel (RV.err p e)) (he : e ≠ 0) {w w' : World} (hb : But (fun k => k = g) w w') : ValN Rel g s w (FaultN p e) w' := ⟨hb, _, h, .inl ⟨he, rfl⟩⟩
theorem vn_yes {Rel : RV → Prop} {g : Nat} {s : ByteArray} {p n : Nat} {x : Sx} {v : SV} (h : Rel ⟨x, p, n, 0⟩) {w w' : World} (hb : But (fun k => k = g) w w') (hr : RdI (fun k => w.heap.size ≤ k) w' v x) (hX : Box w' g 72 (RdN s p n)) : ValN Rel g s w (.returned v.val) w' := ⟨hb, _, h, .inr ⟨rfl, v, rfl, hr, hX⟩⟩
def begL : List UInt8 := [40, 91, 34, 35, 124]
theorem begL_is : ∀ n : Fin 256, (isIn begL (n.val.toUInt8) || signB (n.val.toUInt8)) = begB (n.val.toUInt8) := by decide +kernel
theorem beg_of (c : UInt8) : (isIn begL c || signB c) = begB c := by have := begL_is ⟨c.toNat, c.toNat_lt⟩; rwa [byte_fin] at this
/-- what a list does from that place on, so deep -/
def ListDoes (g : Nat) (s : ByteArray) (f : Nat) : Prop := ∀ (p m lv : Nat) (w : World), Box w g 72 (RdN s p m) → p ≤ s.size → s.size < p + f → m ≤ 512 → lv ≤ 16 →
  Calls Tryd.prog 46 #[.pointer (some ⟨g, 0, none⟩), .int .i64 lv] w (ValN (Nt s.data.toList (some []) p lv m) g s w)
def ValueDoes (g : Nat) (s : ByteArray) (f : Nat) : Prop := ∀ (p m lv : Nat) (w : World), Box w g 72 (RdN s p m) → p ≤ s.size → s.size < p + f → m ≤ 512 → lv ≤ 17 →
  Calls Tryd.prog 23 #[.pointer (some ⟨g, 0, none⟩), .int .i64 lv] w (ValN (Nt s.data.toList none p lv m) g s w)

set_option maxHeartbeats 32000000 in
set_option maxRecDepth 100000 in
theorem valueN_of (g : Nat) (s : ByteArray) (f : Nat) (hs : s.size ≤ 100000) (hd : ListDoes g s f) (p m lv : Nat) (w : World) (hX : Box w g 72 (RdN s p m)) (hp : p ≤ s.size) (hf : s.size < p + (f + 1)) (hm : m ≤ 512) (hlv : lv ≤ 17) :
    Calls Tryd.prog 23 #[.pointer (some ⟨g, 0, none⟩), .int .i64 lv] w (ValN (Nt s.data.toList none p lv m) g s w) := by
  have HL : Hid (s.data.toList.length = s.size) := Lib.hid (by simp)
  have HD := Lib.hid hd
  have hgw := hX.lt
  have B0 : Below w.heap.size w (w.alloc (.cells #[.bool false, .bool false, .slice none 0 0, .slice none 0 0, .slice none 0 0] 26)) := (Below.refl _ _).alloc (Nat.le_refl _) _
  have R := Lib.hid (Box.new w 26 #[.bool false, .bool false, .slice none 0 0, .slice none 0 0, .slice none 0 0])
  have X := Lib.hid (hX.after B0)
  have U : Hid (But (fun k => k = g) w (w.alloc (.cells #[.bool false, .bool false, .slice none 0 0, .slice none 0 0, .slice none 0 0] 26))) := Lib.hid (But.ofBelow B0)
  have hz : w.heap.size < ((w.alloc (.cells #[.bool false, .bool false, .slice none 0 0, .slice none 0 0, .slice none 0 0] 26))).heap.size := R.out.lt
  obtain ⟨q, hq⟩ : ∃ q, q = skipN s.data.toList p := ⟨_, rfl⟩
  have HQ := Lib.hid hq
  have hsk := skipN_le (l := s.data.toList) (p := p) (by rw [HL.out]; exact hp)
  rw [HL.out, ← hq] at hsk
  clear hX hd hq B0
  go_enter Tryd.func23, Tryd.ntmps23
  go_upto_region 1 with fail
  change Code.wp _ _ _ _ (w.alloc (.cells #[.bool false, .bool false, .slice none 0 0, .slice none 0 0, .slice none 0 0] 26))
  generalize (w.alloc (.cells #[.bool false, .bool false, .slice none 0 0, .slice none 0 0, .slice none 0 0] 26)) = u0 at *
  go_wp2_with fail
  refine (skipN_any g s p m u0 X.out (by omega) hp).mono ?_
  rintro e w1 ⟨rfl, X1, b1⟩
  rw [← HQ.out] at X1
  replace R := Lib.hid (b1.box R.out (by omega))
  replace U := Lib.hid (U.out.trans b1 (fun k hk => .inl hk))
  replace X := Lib.hid X1
  have hz1 := b1.size
  clear X1 b1
  go_wp2_with fail
  refine (peek_any g s q m w1 X.out (by omega)).mono ?_
  rintro e w2 ⟨b2, ⟨h2, rfl⟩ | ⟨h2, rfl⟩⟩
  · unfold FaultN
    go_wp2_with fail
    exact ⟨rfl, vn_no (by rw [show s.size = s.data.toList.length from HL.out.symm]; exact Nt.short (by rw [HL.out, ← HQ.out]; exact h2)) (by decide) (U.out.trans (But.ofBelow (S := fun _ => False) b2) (fun _ h => h.elim))⟩
  obtain ⟨x, hx⟩ : ∃ x, x = s.data.toList.getD q 0 := ⟨_, rfl⟩
  rw [← hx]
  have HXC : Hid (s.data.toList.getD (skipN s.data.toList p) 0 = x) := Lib.hid (by rw [← HQ.out, hx])
  have HQL : Hid (skipN s.data.toList p < s.data.toList.length) := Lib.hid (by rw [← HQ.out, HL.out]; exact h2)
  replace R := Lib.hid (R.out.after b2)
  replace X := Lib.hid (X.out.after b2)
  replace U := Lib.hid (U.out.trans (But.ofBelow (S := fun _ => False) b2) (fun _ h => h.elim))
  have hz2 := b2.size
  clear b2 hx
  have x1 := X.out.cell 1 rfl
  have f1 := X.out.frozen 1
  have x2 := X.out.cell 2 rfl
  have f2 := X.out.frozen 2
  have hq6 : (q : Int) ≤ 1000000 := by omega
  have hm6 : (m : Int) ≤ 512 := by omega
  have HB1 := Lib.hid (beg_of x)
  have hx255 := x.toNat_lt
  go_wp2_with fail
  refine (is_any ⟨begL.toArray⟩ x _).mono ?_
  rintro e w9 ⟨rfl, rfl⟩
  have hbl : (ByteArray.mk begL.toArray).data.toList = begL := by simp
  rw [hbl]
  clear hbl
  cases hbl : isIn begL x with
  | true =>
    have HBG : Hid (begB x = true) := Lib.hid (by rw [← HB1.out, hbl]; rfl)
    clear hbl HB1
    have X3 : Box (w9.setCell ⟨g, 2, none⟩ (.int .i64 ((m : Int) + 1))) g 72 (RdN s q (m + 1)) := X.out.set 2 _
    have b3 : But (fun k => k = g) w9 (w9.setCell ⟨g, 2, none⟩ (.int .i64 ((m : Int) + 1))) := (But.refl (fun k => k = g) w9).setCell (p := ⟨g, 2, none⟩) (.inl rfl) _
    go_upto_region 6 with fail
    change Code.wp _ _ _ _ (w9.setCell ⟨g, 2, none⟩ (.int .i64 ((m : Int) + 1)))
    generalize (w9.setCell ⟨g, 2, none⟩ (.int .i64 ((m : Int) + 1))) = w3 at *
    replace R := Lib.hid (b3.box R.out (by omega))
    replace U := Lib.hid (U.out.trans b3 (fun k hk => .inl hk))
    replace X := Lib.hid X3
    have hz3 := b3.size
    clear X3 b3 x1 f1 x2 f2
    have x1 := X.out.cell 1 rfl
    have f1 := X.out.frozen 1
    have x2 := X.out.cell 2 rfl
    by_cases hm : 512 < m + 1
    · have hm' : (512 : Int) < (m : Int) + 1 := by omega
      have HE : Hid (Nt s.data.toList none p lv m (RV.err q 4)) := Lib.hid (by rw [HQ.out]; exact Nt.long HQL.out (by rw [HXC.out]; exact HBG.out) (.inl hm))
      clear hm
      go_wp2_with fail
      refine (wrong_any q 4 _).mono ?_
      rintro e w8 ⟨rfl, rfl⟩
      unfold FaultN
      go_wp2_with fail
      exact ⟨rfl, vn_no HE.out (by decide) U.out⟩
    have hm' : ¬ (512 : Int) < (m : Int) + 1 := by omega
    by_cases h40 : x = 40
    · obtain ⟨e1, e2, e3⟩ := bEq (a := x) 40 40 rfl (by rw [h40]; rfl)
      by_cases hlv : 16 < lv
      · have hlv' : (16 : Int) < lv := by omega
        have HE : Hid (Nt s.data.toList none p lv m (RV.err q 4)) := Lib.hid (by rw [HQ.out]; exact Nt.long HQL.out (by rw [HXC.out]; exact HBG.out) (.inr ⟨by rw [HXC.out]; exact h40, hlv⟩))
        clear hlv h40 e3
        go_wp2_with fail
        refine (wrong_any q 4 _).mono ?_
        rintro e w8 ⟨rfl, rfl⟩
        unfold FaultN
        go_wp2_with fail
        exact ⟨rfl, vn_no HE.out (by decide) U.out⟩
      · have hlv' : ¬ (16 : Int) < lv := by omega
        have HLI : Hid (∀ r, Nt s.data.toList (some []) (q + 1) lv (m + 1) r → Nt s.data.toList none p lv m r) := Lib.hid (fun r hr => Nt.list HQL.out (by rw [HXC.out]; exact h40) (by omega) (by omega) (by rw [← HQ.out]; exact hr))
        clear h40 e3
        go_upto_region 11 with fail
        have X4 : Box (w3.setCell ⟨g, 1, none⟩ (.int .i64 ((q : Int) + 1))) g 72 (RdN s (q + 1) (m + 1)) := X.out.set 1 _
        have b4 : But (fun k => k = g) w3 (w3.setCell ⟨g, 1, none⟩ (.int .i64 ((q : Int) + 1))) := (But.refl (fun k => k = g) w3).setCell (p := ⟨g, 1, none⟩) (.inl rfl) _
        change Code.wp _ _ _ _ (w3.setCell ⟨g, 1, none⟩ (.int .i64 ((q : Int) + 1)))
        generalize (w3.setCell ⟨g, 1, none⟩ (.int .i64 ((q : Int) + 1))) = w4 at *
        replace R := Lib.hid (b4.box R.out (by omega))
        replace U := Lib.hid (U.out.trans b4 (fun k hk => .inl hk))
        replace X := Lib.hid X4
        have hz4 := b4.size
        clear X4 b4 x1 f1 x2
        go_wp2_with fail
        refine (HD.out (q + 1) (m + 1) lv w4 X.out (by omega) (by omega) (by omega) (by omega)).mono ?_
        rintro e w5 ⟨b5, r, hr, ⟨h5, rfl⟩ | ⟨h5, v, rfl, rd, X5⟩⟩
        · have HR := Lib.hid (HLI.out r hr)
          replace U := Lib.hid (U.out.trans b5 (fun k hk => .inl hk))
          have H5 := Lib.hid h5
          clear hr h5 b5
          unfold FaultN
          go_wp2_with fail
          exact ⟨rfl, U.out, r, HR.out, .inl ⟨H5.out, rfl⟩⟩
        · have HR := Lib.hid (HLI.out r hr)
          replace U := Lib.hid (U.out.trans b5 (fun k hk => .inl hk))
          replace R := Lib.hid (b5.box R.out (by omega))
          replace X := Lib.hid X5
          have RD := Lib.hid rd
          have H5 := Lib.hid h5
          have hz5 := b5.size
          clear hr h5 b5 X5 rd
          obtain ⟨vl, vh, a1, n1, c1, a2, n2, c2, a3, n3, c3⟩ := v
          unfold SV.val
          go_wp2_with (refine wpList_store_box (cells := #[.bool vl, .bool vh, .slice a1 n1 c1, .slice a2 n2 c2, .slice a3 n3 c3]) rfl 26 _ _ rfl R.out (by rfl) (by rfl) rfl (by kernel_rfl) (by simp [Value.oneCell']) ?_; intro u9 X9 st9)
          have b9 : But (fun k => k = w.heap.size) w5 u9 := But.ofStored st9 (st9.below 0 w5 (Nat.zero_le _) (Below.refl _ _))
          exact bodyPost_ret (v := .agg #[.bool vl, .bool vh, .slice a1 n1 c1, .slice a2 n2 c2, .slice a3 n3 c3]) (box_result rfl _ _ (by rfl) X9 Tryd.underlying26 rfl (by kernel_rfl)) rfl ⟨U.out.trans b9 (fun k hk => .inr (by omega)), r, HR.out, .inr ⟨H5.out, ⟨vl, vh, a1, n1, c1, a2, n2, c2, a3, n3, c3⟩, rfl, (RD.out.but b9 (fun k hk e => by omega)).mono (fun k hk => by omega), b9.box X.out (by omega)⟩⟩
    obtain ⟨e1, e2, e3⟩ := bNe (a := x) 40 40 rfl (fun e => h40 (by rw [← UInt8.toNat_inj]; exact e))
    have H40 := Lib.hid h40
    clear h40 e3
    by_cases h91 : x = 91
    · obtain ⟨e4, e5, e6⟩ := bEq (a := x) 91 91 rfl (by rw [h91]; rfl)
      obtain ⟨N, hN⟩ : ∃ N, N = nHint s.data.toList (q + 1) (m + 1) := ⟨_, rfl⟩
      have HN : Hid (Nt s.data.toList none p lv m N) := Lib.hid (by rw [hN, HQ.out]; exact Nt.hint HQL.out (by rw [HXC.out]; exact h91) (by omega))
      have HNE := Lib.hid hN
      clear h91 e6 hN
      go_upto_region 14 with fail
      have X4 : Box (w3.setCell ⟨g, 1, none⟩ (.int .i64 ((q : Int) + 1))) g 72 (RdN s (q + 1) (m + 1)) := X.out.set 1 _
      have b4 : But (fun k => k = g) w3 (w3.setCell ⟨g, 1, none⟩ (.int .i64 ((q : Int) + 1))) := (But.refl (fun k => k = g) w3).setCell (p := ⟨g, 1, none⟩) (.inl rfl) _
      change Code.wp _ _ _ _ (w3.setCell ⟨g, 1, none⟩ (.int .i64 ((q : Int) + 1)))
      generalize (w3.setCell ⟨g, 1, none⟩ (.int .i64 ((q : Int) + 1))) = w4 at *
      replace R := Lib.hid (b4.box R.out (by omega))
      replace U := Lib.hid (U.out.trans b4 (fun k hk => .inl hk))
      replace X := Lib.hid X4
      have hz4 := b4.size
      clear X4 b4 x1 f1 x2
      go_wp2_with fail
      refine (skipN_any g s (q + 1) (m + 1) w4 X.out (by omega) (by omega)).mono ?_
      rintro e w5 ⟨rfl, X5, b5⟩
      obtain ⟨q1, hq1⟩ : ∃ q1, q1 = skipN s.data.toList (q + 1) := ⟨_, rfl⟩
      have hk1 := skipN_le (l := s.data.toList) (p := q + 1) (by rw [HL.out]; omega)
      rw [HL.out, ← hq1] at hk1
      rw [← hq1] at X5
      replace R := Lib.hid (b5.box R.out (by omega))
      replace U := Lib.hid (U.out.trans b5 (fun k hk => .inl hk))
      replace X := Lib.hid X5
      have hz5 := b5.size
      have HQ1 := Lib.hid hq1
      clear X5 b5 hq1
      go_wp2_with fail
      refine (plainN_any g s q1 (m + 1) w5 X.out hs (by omega)).mono ?_
      rintro e w6 ⟨b6, ⟨h6, rfl⟩ | ⟨h6, a1, n1, c1, rfl, s6, i6, X6⟩⟩
      · replace U := Lib.hid (U.out.trans b6 (fun k hk => .inl hk))
        have HE : Hid (N = RV.err (nPlain s.data.toList q1).p (nPlain s.data.toList q1).e) := Lib.hid (by rw [HNE.out]; unfold nHint; dsimp only; rw [← HQ1.out, if_pos h6])
        have H6 := Lib.hid h6
        clear b6 h6
        unfold FaultN
        go_wp2_with fail
        exact ⟨rfl, vn_no (by rw [← HE.out]; exact HN.out) H6.out U.out⟩
      have hp6 := nPlain_place h6
      rw [HL.out] at hp6
      have HNF : Hid (N = if s.data.toList.length ≤ skipN s.data.toList (nPlain s.data.toList q1).p then RV.err s.data.toList.length 2 else if s.data.toList.getD (skipN s.data.toList (nPlain s.data.toList q1).p) 0 ≠ 93 then RV.err (skipN s.data.toList (nPlain s.data.toList q1).p) 3 else
          let d := nPlain s.data.toList (skipN s.data.toList (skipN s.data.toList (nPlain s.data.toList q1).p + 1))
          if d.e ≠ 0 then RV.err d.p d.e else ⟨.mk false true (nPlain s.data.toList q1).b d.b [], d.p, m + 1, 0⟩) := Lib.hid (by rw [HNE.out]; unfold nHint; dsimp only; rw [← HQ1.out, if_neg (by rw [h6]; simp)])
      obtain ⟨hb, hhb⟩ : ∃ hb, hb = (nPlain s.data.toList q1).b := ⟨_, rfl⟩
      obtain ⟨q2, hq2⟩ : ∃ q2, q2 = (nPlain s.data.toList q1).p := ⟨_, rfl⟩
      rw [← hq2, ← hhb] at HNF
      rw [← hhb] at s6
      rw [← hq2] at X6 hp6
      replace R := Lib.hid (b6.box R.out (by omega))
      replace U := Lib.hid (U.out.trans b6 (fun k hk => .inl hk))
      replace X := Lib.hid X6
      have S1 := Lib.hid s6
      have I1 := Lib.hid (i6.mono (fun k hk => show w.heap.size < k by omega))
      have hz6 := b6.size
      clear b6 h6 s6 i6 X6 HNE hhb hq2
      go_upto_region 16 with (refine wpList_store_box (cells := #[.bool false, .bool true, .slice a1 n1 c1, .slice none 0 0, .slice none 0 0]) rfl 26 _ _ rfl (Box.new _ _ _) (by rfl) (by rfl) rfl (by kernel_rfl) (by simp [Value.oneCell']) ?_; intro u7 V7 st7)
      have b7 : Below w6.heap.size w6 u7 := st7.below w6.heap.size w6 (Nat.le_refl _) ((Below.refl _ _).alloc (Nat.le_refl _) _)
      replace R := Lib.hid (R.out.after b7)
      replace X := Lib.hid (X.out.after b7)
      replace U := Lib.hid (U.out.trans (But.ofBelow (S := fun _ => False) b7) (fun _ h => h.elim))
      have S2 := Lib.hid (S1.out.after b7)
      have V := Lib.hid V7
      have hz7 := V7.lt
      have hvl : w.heap.size < w6.heap.size := by omega
      have HI1 : Hid (InB (fun k => w.heap.size < k ∧ k < w6.heap.size) a1 n1) := Lib.hid (S1.out.inB.elim (fun h => .inl h) (fun h => I1.out.elim (fun h' => .inl h') (fun h' => .inr fun b o s e => ⟨h' b o s e, h b o s e⟩)))
      clear b7 st7 V7 S1 I1
      generalize w6.heap.size = vb at *
      go_wp2_with fail
      refine (skipN_any g s q2 (m + 1) u7 X.out (by omega) (by omega)).mono ?_
      rintro e w8 ⟨rfl, X8, b8⟩
      obtain ⟨q3, hq3⟩ : ∃ q3, q3 = skipN s.data.toList q2 := ⟨_, rfl⟩
      have hk3 := skipN_le (l := s.data.toList) (p := q2) (by rw [HL.out]; omega)
      rw [HL.out, ← hq3] at hk3
      rw [← hq3] at X8 HNF
      replace R := Lib.hid (b8.box R.out (by omega))
      replace V := Lib.hid (b8.box V.out (by omega))
      replace S2 := Lib.hid (S2.out.but b8 HI1.out (fun k hk e => by omega))
      replace U := Lib.hid (U.out.trans b8 (fun k hk => .inl hk))
      replace X := Lib.hid X8
      have hz8 := b8.size
      clear X8 b8 hq3
      go_wp2_with fail
      refine (signN_any g s q3 (m + 1) 93 w8 X.out (by omega)).mono ?_
      rintro e w10 ⟨b10, ⟨h10, rfl⟩ | ⟨h10, k10, rfl⟩ | ⟨h10, k10, rfl, X10⟩⟩
      · replace U := Lib.hid (U.out.trans b10 (fun k hk => .inl hk))
        have HE : Hid (N = RV.err s.size 2) := Lib.hid (by rw [HNF.out, if_pos (by rw [HL.out]; exact h10), HL.out])
        clear b10
        unfold FaultN
        go_wp2_with fail
        exact ⟨rfl, vn_no (by rw [← HE.out]; exact HN.out) (by decide) U.out⟩
      · replace U := Lib.hid (U.out.trans b10 (fun k hk => .inl hk))
        have HE : Hid (N = RV.err q3 3) := Lib.hid (by rw [HNF.out, if_neg (by rw [HL.out]; omega), if_pos k10])
        clear b10 k10
        unfold FaultN
        go_wp2_with fail
        exact ⟨rfl, vn_no (by rw [← HE.out]; exact HN.out) (by decide) U.out⟩
      replace HNF := Lib.hid (HNF.out.trans (by rw [if_neg (by rw [HL.out]; omega), if_neg (by rw [k10]; simp)]))
      replace R := Lib.hid (b10.box R.out (by omega))
      replace V := Lib.hid (b10.box V.out (by omega))
      replace S2 := Lib.hid (S2.out.but b10 HI1.out (fun k hk e => by omega))
      replace U := Lib.hid (U.out.trans b10 (fun k hk => .inl hk))
      replace X := Lib.hid X10
      have hz10 := b10.size
      clear X10 b10 k10
      go_wp2_with fail
      refine (skipN_any g s (q3 + 1) (m + 1) w10 X.out (by omega) (by omega)).mono ?_
      rintro e w11 ⟨rfl, X11, b11⟩
      obtain ⟨q4, hq4⟩ : ∃ q4, q4 = skipN s.data.toList (q3 + 1) := ⟨_, rfl⟩
      have hk4 := skipN_le (l := s.data.toList) (p := q3 + 1) (by rw [HL.out]; omega)
      rw [HL.out, ← hq4] at hk4
      rw [← hq4] at X11 HNF
      replace R := Lib.hid (b11.box R.out (by omega))
      replace V := Lib.hid (b11.box V.out (by omega))
      replace S2 := Lib.hid (S2.out.but b11 HI1.out (fun k hk e => by omega))
      replace U := Lib.hid (U.out.trans b11 (fun k hk => .inl hk))
      replace X := Lib.hid X11
      have hz11 := b11.size
      clear X11 b11 hq4
      go_wp2_with fail
      refine (plainN_any g s q4 (m + 1) w11 X.out hs (by omega)).mono ?_
      rintro e w12 ⟨b12, ⟨h12, rfl⟩ | ⟨h12, a2, n2, c2, rfl, s12, i12, X12⟩⟩
      · replace U := Lib.hid (U.out.trans b12 (fun k hk => .inl hk))
        have HE : Hid (N = RV.err (nPlain s.data.toList q4).p (nPlain s.data.toList q4).e) := Lib.hid (by rw [HNF.out, if_pos h12])
        have H12 := Lib.hid h12
        clear b12 h12
        unfold FaultN
        go_wp2_with fail
        exact ⟨rfl, vn_no (by rw [← HE.out]; exact HN.out) H12.out U.out⟩
      have HE : Hid (N = ⟨.mk false true hb (nPlain s.data.toList q4).b [], (nPlain s.data.toList q4).p, m + 1, 0⟩) := Lib.hid (by rw [HNF.out, if_neg (by rw [h12]; simp)])
      replace R := Lib.hid (b12.box R.out (by omega))
      replace V := Lib.hid (b12.box V.out (by omega))
      replace S2 := Lib.hid (S2.out.but b12 HI1.out (fun k hk e => by omega))
      replace U := Lib.hid (U.out.trans b12 (fun k hk => .inl hk))
      replace X := Lib.hid X12
      have S3 := Lib.hid s12
      have I3 := Lib.hid (i12.mono (fun k hk => show vb < k by omega))
      have hz12 := b12.size
      clear b12 h12 s12 i12 X12 HNF
      have v3 := V.out.cell 3 rfl
      have fv3 := V.out.frozen 3
      go_upto_region 20 with fail
      have b13 : But (fun k => k = vb) w12 (w12.setCell ⟨vb, 3, none⟩ (.slice a2 n2 c2)) := (But.refl (fun k => k = vb) w12).setCell (p := ⟨vb, 3, none⟩) (.inl rfl) _
      have V13 : Box (w12.setCell ⟨vb, 3, none⟩ (.slice a2 n2 c2)) vb 26 #[.bool false, .bool true, .slice a1 n1 c1, .slice a2 n2 c2, .slice none 0 0] := V.out.set 3 _
      change Code.wp _ _ _ _ (w12.setCell ⟨vb, 3, none⟩ (.slice a2 n2 c2))
      generalize (w12.setCell ⟨vb, 3, none⟩ (.slice a2 n2 c2)) = w13 at *
      replace R := Lib.hid (b13.box R.out (by omega))
      replace V := Lib.hid V13
      replace X := Lib.hid (b13.box X.out (by omega))
      replace S2 := Lib.hid (S2.out.but b13 HI1.out (fun k hk e => by omega))
      replace S3 := Lib.hid (S3.out.but b13 I3.out (fun k hk e => by omega))
      replace U := Lib.hid (U.out.trans b13 (fun k hk => .inr (by omega)))
      clear v3 fv3 b13 V13
      go_wp2_with first | (refine wpList_load_box rfl 26 _ rfl V.out (by rfl) Tryd.underlying26 rfl (by kernel_rfl) ?_) | (refine wpList_store_box (cells := #[.bool false, .bool true, .slice a1 n1 c1, .slice a2 n2 c2, .slice none 0 0]) rfl 26 _ _ rfl R.out (by rfl) (by rfl) rfl (by kernel_rfl) (by simp [Value.oneCell']) ?_; intro u14 X14 st14)
      have b14 : But (fun k => k = w.heap.size) w13 u14 := But.ofStored st14 (st14.below 0 w13 (Nat.zero_le _) (Below.refl _ _))
      exact bodyPost_ret (v := .agg #[.bool false, .bool true, .slice a1 n1 c1, .slice a2 n2 c2, .slice none 0 0]) (box_result rfl _ _ (by rfl) X14 Tryd.underlying26 rfl (by kernel_rfl)) rfl (vn_yes (v := ⟨false, true, a1, n1, c1, a2, n2, c2, none, 0, 0⟩) (by rw [← HE.out]; exact HN.out) (U.out.trans b14 (fun k hk => .inr (by omega)))
        (rd_hint (S2.out.but b14 HI1.out (fun k hk e => by omega)) (S3.out.but b14 I3.out (fun k hk e => by omega)) (HI1.out.mono (fun k hk => by omega)) (I3.out.mono (fun k hk => by omega))) (b14.box X.out (by omega)))
    · obtain ⟨e4, e5, e6⟩ := bNe (a := x) 91 91 rfl (fun e => h91 (by rw [← UInt8.toNat_inj]; exact e))
      obtain ⟨N, hN⟩ : ∃ N, N = nAtom s.data.toList q (m + 1) := ⟨_, rfl⟩
      have HN : Hid (Nt s.data.toList none p lv m N) := Lib.hid (by rw [hN, HQ.out]; exact Nt.atom HQL.out (by rw [HXC.out]; exact HBG.out) (by rw [HXC.out]; exact H40.out) (by rw [HXC.out]; exact h91) (by omega))
      have HNE := Lib.hid hN
      clear h91 e6 hN
      go_wp2_with fail
      refine (plainN_any g s q (m + 1) w3 X.out hs (by omega)).mono ?_
      rintro e w6 ⟨b6, ⟨h6, rfl⟩ | ⟨h6, a1, n1, c1, rfl, s6, i6, X6⟩⟩
      · replace U := Lib.hid (U.out.trans b6 (fun k hk => .inl hk))
        have HE : Hid (N = RV.err (nPlain s.data.toList q).p (nPlain s.data.toList q).e) := Lib.hid (by rw [HNE.out]; unfold nAtom; dsimp only; rw [if_pos h6])
        have H6 := Lib.hid h6
        clear b6 h6
        unfold FaultN
        go_wp2_with fail
        exact ⟨rfl, vn_no (by rw [← HE.out]; exact HN.out) H6.out U.out⟩
      have HE : Hid (N = ⟨.mk false false [] (nPlain s.data.toList q).b [], (nPlain s.data.toList q).p, m + 1, 0⟩) := Lib.hid (by rw [HNE.out]; unfold nAtom; dsimp only; rw [if_neg (by rw [h6]; simp)])
      replace R := Lib.hid (b6.box R.out (by omega))
      replace U := Lib.hid (U.out.trans b6 (fun k hk => .inl hk))
      replace X := Lib.hid X6
      have S1 := Lib.hid s6
      have I1 := Lib.hid (i6.mono (fun k hk => show w.heap.size < k by omega))
      clear b6 h6 s6 i6 X6 HNE
      go_wp2_with (refine wpList_store_box (cells := #[.bool false, .bool false, .slice none 0 0, .slice a1 n1 c1, .slice none 0 0]) rfl 26 _ _ rfl R.out (by rfl) (by rfl) rfl (by kernel_rfl) (by simp [Value.oneCell']) ?_; intro u14 X14 st14)
      have b14 : But (fun k => k = w.heap.size) w6 u14 := But.ofStored st14 (st14.below 0 w6 (Nat.zero_le _) (Below.refl _ _))
      exact bodyPost_ret (v := .agg #[.bool false, .bool false, .slice none 0 0, .slice a1 n1 c1, .slice none 0 0]) (box_result rfl _ _ (by rfl) X14 Tryd.underlying26 rfl (by kernel_rfl)) rfl (vn_yes (v := ⟨false, false, none, 0, 0, a1, n1, c1, none, 0, 0⟩) (by rw [← HE.out]; exact HN.out) (U.out.trans b14 (fun k hk => .inr (by omega)))
        (rd_atomI (S1.out.but b14 I1.out (fun k hk e => by omega)) (I1.out.mono (fun k hk => by omega))) (b14.box X.out (by omega)))
  | false =>
    rw [hbl] at HB1
    clear hbl
    go_wp2_with fail
    refine (is_any ⟨signL.toArray⟩ x _).mono ?_
    rintro e w8 ⟨rfl, rfl⟩
    rw [goodS]
    cases hsg : signB x with
    | false =>
      have HBG : Hid (begB x = false) := Lib.hid (by rw [← HB1.out, hsg]; rfl)
      clear hsg HB1
      go_wp2_with fail
      refine (wrong_any q 3 _).mono ?_
      rintro e w8 ⟨rfl, rfl⟩
      unfold FaultN
      go_wp2_with fail
      exact ⟨rfl, vn_no (by rw [HQ.out]; exact Nt.bad HQL.out (by rw [HXC.out]; exact HBG.out)) (by decide) U.out⟩
    | true =>
      have HBG : Hid (begB x = true) := Lib.hid (by rw [← HB1.out, hsg]; rfl)
      clear hsg HB1
      have X3 : Box (w8.setCell ⟨g, 2, none⟩ (.int .i64 ((m : Int) + 1))) g 72 (RdN s q (m + 1)) := X.out.set 2 _
      have b3 : But (fun k => k = g) w8 (w8.setCell ⟨g, 2, none⟩ (.int .i64 ((m : Int) + 1))) := (But.refl (fun k => k = g) w8).setCell (p := ⟨g, 2, none⟩) (.inl rfl) _
      go_upto_region 6 with fail
      change Code.wp _ _ _ _ (w8.setCell ⟨g, 2, none⟩ (.int .i64 ((m : Int) + 1)))
      generalize (w8.setCell ⟨g, 2, none⟩ (.int .i64 ((m : Int) + 1))) = w3 at *
      replace R := Lib.hid (b3.box R.out (by omega))
      replace U := Lib.hid (U.out.trans b3 (fun k hk => .inl hk))
      replace X := Lib.hid X3
      have hz3 := b3.size
      clear X3 b3 x1 f1 x2 f2
      have x1 := X.out.cell 1 rfl
      have f1 := X.out.frozen 1
      have x2 := X.out.cell 2 rfl
      by_cases hm : 512 < m + 1
      · have hm' : (512 : Int) < (m : Int) + 1 := by omega
        have HE : Hid (Nt s.data.toList none p lv m (RV.err q 4)) := Lib.hid (by rw [HQ.out]; exact Nt.long HQL.out (by rw [HXC.out]; exact HBG.out) (.inl hm))
        clear hm
        go_wp2_with fail
        refine (wrong_any q 4 _).mono ?_
        rintro e w8 ⟨rfl, rfl⟩
        unfold FaultN
        go_wp2_with fail
        exact ⟨rfl, vn_no HE.out (by decide) U.out⟩
      have hm' : ¬ (512 : Int) < (m : Int) + 1 := by omega
      by_cases h40 : x = 40
      · obtain ⟨e1, e2, e3⟩ := bEq (a := x) 40 40 rfl (by rw [h40]; rfl)
        by_cases hlv : 16 < lv
        · have hlv' : (16 : Int) < lv := by omega
          have HE : Hid (Nt s.data.toList none p lv m (RV.err q 4)) := Lib.hid (by rw [HQ.out]; exact Nt.long HQL.out (by rw [HXC.out]; exact HBG.out) (.inr ⟨by rw [HXC.out]; exact h40, hlv⟩))
          clear hlv h40 e3
          go_wp2_with fail
          refine (wrong_any q 4 _).mono ?_
          rintro e w8 ⟨rfl, rfl⟩
          unfold FaultN
          go_wp2_with fail
          exact ⟨rfl, vn_no HE.out (by decide) U.out⟩
        · have hlv' : ¬ (16 : Int) < lv := by omega
          have HLI : Hid (∀ r, Nt s.data.toList (some []) (q + 1) lv (m + 1) r → Nt s.data.toList none p lv m r) := Lib.hid (fun r hr => Nt.list HQL.out (by rw [HXC.out]; exact h40) (by omega) (by omega) (by rw [← HQ.out]; exact hr))
          clear h40 e3
          go_upto_region 11 with fail
          have X4 : Box (w3.setCell ⟨g, 1, none⟩ (.int .i64 ((q : Int) + 1))) g 72 (RdN s (q + 1) (m + 1)) := X.out.set 1 _
          have b4 : But (fun k => k = g) w3 (w3.setCell ⟨g, 1, none⟩ (.int .i64 ((q : Int) + 1))) := (But.refl (fun k => k = g) w3).setCell (p := ⟨g, 1, none⟩) (.inl rfl) _
          change Code.wp _ _ _ _ (w3.setCell ⟨g, 1, none⟩ (.int .i64 ((q : Int) + 1)))
          generalize (w3.setCell ⟨g, 1, none⟩ (.int .i64 ((q : Int) + 1))) = w4 at *
          replace R := Lib.hid (b4.box R.out (by omega))
          replace U := Lib.hid (U.out.trans b4 (fun k hk => .inl hk))
          replace X := Lib.hid X4
          have hz4 := b4.size
          clear X4 b4 x1 f1 x2
          go_wp2_with fail
          refine (HD.out (q + 1) (m + 1) lv w4 X.out (by omega) (by omega) (by omega) (by omega)).mono ?_
          rintro e w5 ⟨b5, r, hr, ⟨h5, rfl⟩ | ⟨h5, v, rfl, rd, X5⟩⟩
          · have HR := Lib.hid (HLI.out r hr)
            replace U := Lib.hid (U.out.trans b5 (fun k hk => .inl hk))
            have H5 := Lib.hid h5
            clear hr h5 b5
            unfold FaultN
            go_wp2_with fail
            exact ⟨rfl, U.out, r, HR.out, .inl ⟨H5.out, rfl⟩⟩
          · have HR := Lib.hid (HLI.out r hr)
            replace U := Lib.hid (U.out.trans b5 (fun k hk => .inl hk))
            replace R := Lib.hid (b5.box R.out (by omega))
            replace X := Lib.hid X5
            have RD := Lib.hid rd
            have H5 := Lib.hid h5
            have hz5 := b5.size
            clear hr h5 b5 X5 rd
            obtain ⟨vl, vh, a1, n1, c1, a2, n2, c2, a3, n3, c3⟩ := v
            unfold SV.val
            go_wp2_with (refine wpList_store_box (cells := #[.bool vl, .bool vh, .slice a1 n1 c1, .slice a2 n2 c2, .slice a3 n3 c3]) rfl 26 _ _ rfl R.out (by rfl) (by rfl) rfl (by kernel_rfl) (by simp [Value.oneCell']) ?_; intro u9 X9 st9)
            have b9 : But (fun k => k = w.heap.size) w5 u9 := But.ofStored st9 (st9.below 0 w5 (Nat.zero_le _) (Below.refl _ _))
            exact bodyPost_ret (v := .agg #[.bool vl, .bool vh, .slice a1 n1 c1, .slice a2 n2 c2, .slice a3 n3 c3]) (box_result rfl _ _ (by rfl) X9 Tryd.underlying26 rfl (by kernel_rfl)) rfl ⟨U.out.trans b9 (fun k hk => .inr (by omega)), r, HR.out, .inr ⟨H5.out, ⟨vl, vh, a1, n1, c1, a2, n2, c2, a3, n3, c3⟩, rfl, (RD.out.but b9 (fun k hk e => by omega)).mono (fun k hk => by omega), b9.box X.out (by omega)⟩⟩
      obtain ⟨e1, e2, e3⟩ := bNe (a := x) 40 40 rfl (fun e => h40 (by rw [← UInt8.toNat_inj]; exact e))
      have H40 := Lib.hid h40
      clear h40 e3
      by_cases h91 : x = 91
      · obtain ⟨e4, e5, e6⟩ := bEq (a := x) 91 91 rfl (by rw [h91]; rfl)
        obtain ⟨N, hN⟩ : ∃ N, N = nHint s.data.toList (q + 1) (m + 1) := ⟨_, rfl⟩
        have HN : Hid (Nt s.data.toList none p lv m N) := Lib.hid (by rw [hN, HQ.out]; exact Nt.hint HQL.out (by rw [HXC.out]; exact h91) (by omega))
        have HNE := Lib.hid hN
        clear h91 e6 hN
        go_upto_region 14 with fail
        have X4 : Box (w3.setCell ⟨g, 1, none⟩ (.int .i64 ((q : Int) + 1))) g 72 (RdN s (q + 1) (m + 1)) := X.out.set 1 _
        have b4 : But (fun k => k = g) w3 (w3.setCell ⟨g, 1, none⟩ (.int .i64 ((q : Int) + 1))) := (But.refl (fun k => k = g) w3).setCell (p := ⟨g, 1, none⟩) (.inl rfl) _
        change Code.wp _ _ _ _ (w3.setCell ⟨g, 1, none⟩ (.int .i64 ((q : Int) + 1)))
        generalize (w3.setCell ⟨g, 1, none⟩ (.int .i64 ((q : Int) + 1))) = w4 at *
        replace R := Lib.hid (b4.box R.out (by omega))
        replace U := Lib.hid (U.out.trans b4 (fun k hk => .inl hk))
        replace X := Lib.hid X4
        have hz4 := b4.size
        clear X4 b4 x1 f1 x2
        go_wp2_with fail
        refine (skipN_any g s (q + 1) (m + 1) w4 X.out (by omega) (by omega)).mono ?_
        rintro e w5 ⟨rfl, X5, b5⟩
        obtain ⟨q1, hq1⟩ : ∃ q1, q1 = skipN s.data.toList (q + 1) := ⟨_, rfl⟩
        have hk1 := skipN_le (l := s.data.toList) (p := q + 1) (by rw [HL.out]; omega)
        rw [HL.out, ← hq1] at hk1
        rw [← hq1] at X5
        replace R := Lib.hid (b5.box R.out (by omega))
        replace U := Lib.hid (U.out.trans b5 (fun k hk => .inl hk))
        replace X := Lib.hid X5
        have hz5 := b5.size
        have HQ1 := Lib.hid hq1
        clear X5 b5 hq1
        go_wp2_with fail
        refine (plainN_any g s q1 (m + 1) w5 X.out hs (by omega)).mono ?_
        rintro e w6 ⟨b6, ⟨h6, rfl⟩ | ⟨h6, a1, n1, c1, rfl, s6, i6, X6⟩⟩
        · replace U := Lib.hid (U.out.trans b6 (fun k hk => .inl hk))
          have HE : Hid (N = RV.err (nPlain s.data.toList q1).p (nPlain s.data.toList q1).e) := Lib.hid (by rw [HNE.out]; unfold nHint; dsimp only; rw [← HQ1.out, if_pos h6])
          have H6 := Lib.hid h6
          clear b6 h6
          unfold FaultN
          go_wp2_with fail
          exact ⟨rfl, vn_no (by rw [← HE.out]; exact HN.out) H6.out U.out⟩
        have hp6 := nPlain_place h6
        rw [HL.out] at hp6
        have HNF : Hid (N = if s.data.toList.length ≤ skipN s.data.toList (nPlain s.data.toList q1).p then RV.err s.data.toList.length 2 else if s.data.toList.getD (skipN s.data.toList (nPlain s.data.toList q1).p) 0 ≠ 93 then RV.err (skipN s.data.toList (nPlain s.data.toList q1).p) 3 else
            let d := nPlain s.data.toList (skipN s.data.toList (skipN s.data.toList (nPlain s.data.toList q1).p + 1))
            if d.e ≠ 0 then RV.err d.p d.e else ⟨.mk false true (nPlain s.data.toList q1).b d.b [], d.p, m + 1, 0⟩) := Lib.hid (by rw [HNE.out]; unfold nHint; dsimp only; rw [← HQ1.out, if_neg (by rw [h6]; simp)])
        obtain ⟨hb, hhb⟩ : ∃ hb, hb = (nPlain s.data.toList q1).b := ⟨_, rfl⟩
        obtain ⟨q2, hq2⟩ : ∃ q2, q2 = (nPlain s.data.toList q1).p := ⟨_, rfl⟩
        rw [← hq2, ← hhb] at HNF
        rw [← hhb] at s6
        rw [← hq2] at X6 hp6
        replace R := Lib.hid (b6.box R.out (by omega))
        replace U := Lib.hid (U.out.trans b6 (fun k hk => .inl hk))
        replace X := Lib.hid X6
        have S1 := Lib.hid s6
        have I1 := Lib.hid (i6.mono (fun k hk => show w.heap.size < k by omega))
        have hz6 := b6.size
        clear b6 h6 s6 i6 X6 HNE hhb hq2
        go_upto_region 16 with (refine wpList_store_box (cells := #[.bool false, .bool true, .slice a1 n1 c1, .slice none 0 0, .slice none 0 0]) rfl 26 _ _ rfl (Box.new _ _ _) (by rfl) (by rfl) rfl (by kernel_rfl) (by simp [Value.oneCell']) ?_; intro u7 V7 st7)
        have b7 : Below w6.heap.size w6 u7 := st7.below w6.heap.size w6 (Nat.le_refl _) ((Below.refl _ _).alloc (Nat.le_refl _) _)
        replace R := Lib.hid (R.out.after b7)
        replace X := Lib.hid (X.out.after b7)
        replace U := Lib.hid (U.out.trans (But.ofBelow (S := fun _ => False) b7) (fun _ h => h.elim))
        have S2 := Lib.hid (S1.out.after b7)
        have V := Lib.hid V7
        have hz7 := V7.lt
        have hvl : w.heap.size < w6.heap.size := by omega
        have HI1 : Hid (InB (fun k => w.heap.size < k ∧ k < w6.heap.size) a1 n1) := Lib.hid (S1.out.inB.elim (fun h => .inl h) (fun h => I1.out.elim (fun h' => .inl h') (fun h' => .inr fun b o s e => ⟨h' b o s e, h b o s e⟩)))
        clear b7 st7 V7 S1 I1
        generalize w6.heap.size = vb at *
        go_wp2_with fail
        refine (skipN_any g s q2 (m + 1) u7 X.out (by omega) (by omega)).mono ?_
        rintro e w8 ⟨rfl, X8, b8⟩
        obtain ⟨q3, hq3⟩ : ∃ q3, q3 = skipN s.data.toList q2 := ⟨_, rfl⟩
        have hk3 := skipN_le (l := s.data.toList) (p := q2) (by rw [HL.out]; omega)
        rw [HL.out, ← hq3] at hk3
        rw [← hq3] at X8 HNF
        replace R := Lib.hid (b8.box R.out (by omega))
        replace V := Lib.hid (b8.box V.out (by omega))
        replace S2 := Lib.hid (S2.out.but b8 HI1.out (fun k hk e => by omega))
        replace U := Lib.hid (U.out.trans b8 (fun k hk => .inl hk))
        replace X := Lib.hid X8
        have hz8 := b8.size
        clear X8 b8 hq3
        go_wp2_with fail
        refine (signN_any g s q3 (m + 1) 93 w8 X.out (by omega)).mono ?_
        rintro e w10 ⟨b10, ⟨h10, rfl⟩ | ⟨h10, k10, rfl⟩ | ⟨h10, k10, rfl, X10⟩⟩
        · replace U := Lib.hid (U.out.trans b10 (fun k hk => .inl hk))
          have HE : Hid (N = RV.err s.size 2) := Lib.hid (by rw [HNF.out, if_pos (by rw [HL.out]; exact h10), HL.out])
          clear b10
          unfold FaultN
          go_wp2_with fail
          exact ⟨rfl, vn_no (by rw [← HE.out]; exact HN.out) (by decide) U.out⟩
        · replace U := Lib.hid (U.out.trans b10 (fun k hk => .inl hk))
          have HE : Hid (N = RV.err q3 3) := Lib.hid (by rw [HNF.out, if_neg (by rw [HL.out]; omega), if_pos k10])
          clear b10 k10
          unfold FaultN
          go_wp2_with fail
          exact ⟨rfl, vn_no (by rw [← HE.out]; exact HN.out) (by decide) U.out⟩
        replace HNF := Lib.hid (HNF.out.trans (by rw [if_neg (by rw [HL.out]; omega), if_neg (by rw [k10]; simp)]))
        replace R := Lib.hid (b10.box R.out (by omega))
        replace V := Lib.hid (b10.box V.out (by omega))
        replace S2 := Lib.hid (S2.out.but b10 HI1.out (fun k hk e => by omega))
        replace U := Lib.hid (U.out.trans b10 (fun k hk => .inl hk))
        replace X := Lib.hid X10
        have hz10 := b10.size
        clear X10 b10 k10
        go_wp2_with fail
        refine (skipN_any g s (q3 + 1) (m + 1) w10 X.out (by omega) (by omega)).mono ?_
        rintro e w11 ⟨rfl, X11, b11⟩
        obtain ⟨q4, hq4⟩ : ∃ q4, q4 = skipN s.data.toList (q3 + 1) := ⟨_, rfl⟩
        have hk4 := skipN_le (l := s.data.toList) (p := q3 + 1) (by rw [HL.out]; omega)
        rw [HL.out, ← hq4] at hk4
        rw [← hq4] at X11 HNF
        replace R := Lib.hid (b11.box R.out (by omega))
        replace V := Lib.hid (b11.box V.out (by omega))
        replace S2 := Lib.hid (S2.out.but b11 HI1.out (fun k hk e => by omega))
        replace U := Lib.hid (U.out.trans b11 (fun k hk => .inl hk))
        replace X := Lib.hid X11
        have hz11 := b11.size
        clear X11 b11 hq4
        go_wp2_with fail
        refine (plainN_any g s q4 (m + 1) w11 X.out hs (by omega)).mono ?_
        rintro e w12 ⟨b12, ⟨h12, rfl⟩ | ⟨h12, a2, n2, c2, rfl, s12, i12, X12⟩⟩
        · replace U := Lib.hid (U.out.trans b12 (fun k hk => .inl hk))
          have HE : Hid (N = RV.err (nPlain s.data.toList q4).p (nPlain s.data.toList q4).e) := Lib.hid (by rw [HNF.out, if_pos h12])
          have H12 := Lib.hid h12
          clear b12 h12
          unfold FaultN
          go_wp2_with fail
          exact ⟨rfl, vn_no (by rw [← HE.out]; exact HN.out) H12.out U.out⟩
        have HE : Hid (N = ⟨.mk false true hb (nPlain s.data.toList q4).b [], (nPlain s.data.toList q4).p, m + 1, 0⟩) := Lib.hid (by rw [HNF.out, if_neg (by rw [h12]; simp)])
        replace R := Lib.hid (b12.box R.out (by omega))
        replace V := Lib.hid (b12.box V.out (by omega))
        replace S2 := Lib.hid (S2.out.but b12 HI1.out (fun k hk e => by omega))
        replace U := Lib.hid (U.out.trans b12 (fun k hk => .inl hk))
        replace X := Lib.hid X12
        have S3 := Lib.hid s12
        have I3 := Lib.hid (i12.mono (fun k hk => show vb < k by omega))
        have hz12 := b12.size
        clear b12 h12 s12 i12 X12 HNF
        have v3 := V.out.cell 3 rfl
        have fv3 := V.out.frozen 3
        go_upto_region 20 with fail
        have b13 : But (fun k => k = vb) w12 (w12.setCell ⟨vb, 3, none⟩ (.slice a2 n2 c2)) := (But.refl (fun k => k = vb) w12).setCell (p := ⟨vb, 3, none⟩) (.inl rfl) _
        have V13 : Box (w12.setCell ⟨vb, 3, none⟩ (.slice a2 n2 c2)) vb 26 #[.bool false, .bool true, .slice a1 n1 c1, .slice a2 n2 c2, .slice none 0 0] := V.out.set 3 _
        change Code.wp _ _ _ _ (w12.setCell ⟨vb, 3, none⟩ (.slice a2 n2 c2))
        generalize (w12.setCell ⟨vb, 3, none⟩ (.slice a2 n2 c2)) = w13 at *
        replace R := Lib.hid (b13.box R.out (by omega))
        replace V := Lib.hid V13
        replace X := Lib.hid (b13.box X.out (by omega))
        replace S2 := Lib.hid (S2.out.but b13 HI1.out (fun k hk e => by omega))
        replace S3 := Lib.hid (S3.out.but b13 I3.out (fun k hk e => by omega))
        replace U := Lib.hid (U.out.trans b13 (fun k hk => .inr (by omega)))
        clear v3 fv3 b13 V13
        go_wp2_with first | (refine wpList_load_box rfl 26 _ rfl V.out (by rfl) Tryd.underlying26 rfl (by kernel_rfl) ?_) | (refine wpList_store_box (cells := #[.bool false, .bool true, .slice a1 n1 c1, .slice a2 n2 c2, .slice none 0 0]) rfl 26 _ _ rfl R.out (by rfl) (by rfl) rfl (by kernel_rfl) (by simp [Value.oneCell']) ?_; intro u14 X14 st14)
        have b14 : But (fun k => k = w.heap.size) w13 u14 := But.ofStored st14 (st14.below 0 w13 (Nat.zero_le _) (Below.refl _ _))
        exact bodyPost_ret (v := .agg #[.bool false, .bool true, .slice a1 n1 c1, .slice a2 n2 c2, .slice none 0 0]) (box_result rfl _ _ (by rfl) X14 Tryd.underlying26 rfl (by kernel_rfl)) rfl (vn_yes (v := ⟨false, true, a1, n1, c1, a2, n2, c2, none, 0, 0⟩) (by rw [← HE.out]; exact HN.out) (U.out.trans b14 (fun k hk => .inr (by omega)))
          (rd_hint (S2.out.but b14 HI1.out (fun k hk e => by omega)) (S3.out.but b14 I3.out (fun k hk e => by omega)) (HI1.out.mono (fun k hk => by omega)) (I3.out.mono (fun k hk => by omega))) (b14.box X.out (by omega)))
      · obtain ⟨e4, e5, e6⟩ := bNe (a := x) 91 91 rfl (fun e => h91 (by rw [← UInt8.toNat_inj]; exact e))
        obtain ⟨N, hN⟩ : ∃ N, N = nAtom s.data.toList q (m + 1) := ⟨_, rfl⟩
        have HN : Hid (Nt s.data.toList none p lv m N) := Lib.hid (by rw [hN, HQ.out]; exact Nt.atom HQL.out (by rw [HXC.out]; exact HBG.out) (by rw [HXC.out]; exact H40.out) (by rw [HXC.out]; exact h91) (by omega))
        have HNE := Lib.hid hN
        clear h91 e6 hN
        go_wp2_with fail
        refine (plainN_any g s q (m + 1) w3 X.out hs (by omega)).mono ?_
        rintro e w6 ⟨b6, ⟨h6, rfl⟩ | ⟨h6, a1, n1, c1, rfl, s6, i6, X6⟩⟩
        · replace U := Lib.hid (U.out.trans b6 (fun k hk => .inl hk))
          have HE : Hid (N = RV.err (nPlain s.data.toList q).p (nPlain s.data.toList q).e) := Lib.hid (by rw [HNE.out]; unfold nAtom; dsimp only; rw [if_pos h6])
          have H6 := Lib.hid h6
          clear b6 h6
          unfold FaultN
          go_wp2_with fail
          exact ⟨rfl, vn_no (by rw [← HE.out]; exact HN.out) H6.out U.out⟩
        have HE : Hid (N = ⟨.mk false false [] (nPlain s.data.toList q).b [], (nPlain s.data.toList q).p, m + 1, 0⟩) := Lib.hid (by rw [HNE.out]; unfold nAtom; dsimp only; rw [if_neg (by rw [h6]; simp)])
        replace R := Lib.hid (b6.box R.out (by omega))
        replace U := Lib.hid (U.out.trans b6 (fun k hk => .inl hk))
        replace X := Lib.hid X6
        have S1 := Lib.hid s6
        have I1 := Lib.hid (i6.mono (fun k hk => show w.heap.size < k by omega))
        clear b6 h6 s6 i6 X6 HNE
        go_wp2_with (refine wpList_store_box (cells := #[.bool false, .bool false, .slice none 0 0, .slice a1 n1 c1, .slice none 0 0]) rfl 26 _ _ rfl R.out (by rfl) (by rfl) rfl (by kernel_rfl) (by simp [Value.oneCell']) ?_; intro u14 X14 st14)
        have b14 : But (fun k => k = w.heap.size) w6 u14 := But.ofStored st14 (st14.below 0 w6 (Nat.zero_le _) (Below.refl _ _))
        exact bodyPost_ret (v := .agg #[.bool false, .bool false, .slice none 0 0, .slice a1 n1 c1, .slice none 0 0]) (box_result rfl _ _ (by rfl) X14 Tryd.underlying26 rfl (by kernel_rfl)) rfl (vn_yes (v := ⟨false, false, none, 0, 0, a1, n1, c1, none, 0, 0⟩) (by rw [← HE.out]; exact HN.out) (U.out.trans b14 (fun k hk => .inr (by omega)))
          (rd_atomI (S1.out.but b14 I1.out (fun k hk e => by omega)) (I1.out.mono (fun k hk => by omega))) (b14.box X.out (by omega)))

end Go.Proofs.YtkbblhioncecmaaDoor

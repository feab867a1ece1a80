/- The program's reader of advanced forms: a value, given what its list does. The program's reader of advanced forms: a list; values and lists. Values with long parts: the program's May of them; what advanced forms yield is such. -/
import Derived.Test.YtkbblhioncecmaaGreatDoorNzG8
namespace Go.Proofs.YtkbblhioncecmaaGreatDoor
open Go.RowKit
set_option linter.unusedSimpArgs false
set_option linter.unusedVariables false

/-- a value, or a list's rest: a fault, or what is read -/
def ValN (Rel : RV → Prop) (g : Nat) (s : ByteArray) (w : World) (e : Ending) (w' : World) : Prop :=
  But (fun k => k = g) w w' ∧ ∃ r : RV, Rel r ∧ ((r.e ≠ 0 ∧ e = FaultN r.p r.e) ∨ (r.e = 0 ∧ ∃ v : SV, e = .returned v.val ∧ RdI (fun k => w.heap.size ≤ k) w' v r.v ∧ Box w' g 59 (RdN s r.p r.n)))
theorem vn_no {Rel : RV → Prop} {g : Nat} {s : ByteArray} {p e : Nat} (h : Rel (RV.err p e)) (he : e ≠ 0) {w w' : World} (hb : But (fun k => k = g) w w') : ValN Rel g s w (FaultN p e) w' := ⟨hb, _, h, .inl ⟨he, rfl⟩⟩
theorem vn_yes {Rel : RV → Prop} {g : Nat} {s : ByteArray} {p n : Nat} {x : Sx} {v : SV} (h : Rel ⟨x, p, n, 0⟩) {w w' : World} (hb : But (fun k => k = g) w w') (hr : RdI (fun k => w.heap.size ≤ k) w' v x) (hX : Box w' g 59 (RdN s p n)) : ValN Rel g s w (.returned v.val) w' := ⟨hb, _, h, .inr ⟨rfl, v, rfl, hr, hX⟩⟩
def begL : List UInt8 := [40, 91, 34, 35, 124]
theorem begL_is : ∀ n : Fin 256, (isIn begL (n.val.toUInt8) || signB (n.val.toUInt8)) = begB (n.val.toUInt8) := by decide +kernel
theorem beg_of (c : UInt8) : (isIn begL c || signB c) = begB c := by have := begL_is ⟨c.toNat, c.toNat_lt⟩; rwa [byte_fin] at this
/-- what a list does from that place on, so deep -/
def ListDoes (g : Nat) (s : ByteArray) (f : Nat) : Prop := ∀ (p m lv : Nat) (w : World), Box w g 59 (RdN s p m) → p ≤ s.size → s.size < p + f → m ≤ 512 → lv ≤ 16 →
  Calls Tryz.prog 35 #[.pointer (some ⟨g, 0, none⟩), .int .i64 lv] w (ValN (Nt s.data.toList (some []) p lv m) g s w)
def ValueDoes (g : Nat) (s : ByteArray) (f : Nat) : Prop := ∀ (p m lv : Nat) (w : World), Box w g 59 (RdN s p m) → p ≤ s.size → s.size < p + f → m ≤ 512 → lv ≤ 17 →
  Calls Tryz.prog 17 #[.pointer (some ⟨g, 0, none⟩), .int .i64 lv] w (ValN (Nt s.data.toList none p lv m) g s w)

set_option maxHeartbeats 32000000 in
set_option maxRecDepth 100000 in
theorem valueN_of (g : Nat) (s : ByteArray) (f : Nat) (hs : s.size ≤ 100000) (hd : ListDoes g s f) (p m lv : Nat) (w : World) (hX : Box w g 59 (RdN s p m)) (hp : p ≤ s.size) (hf : s.size < p + (f + 1)) (hm : m ≤ 512) (hlv : lv ≤ 17) :
    Calls Tryz.prog 17 #[.pointer (some ⟨g, 0, none⟩), .int .i64 lv] w (ValN (Nt s.data.toList none p lv m) g s w) := by
  have HL : Hid (s.data.toList.length = s.size) := Lib.hid (by simp)
  have HD := Lib.hid hd
  have hgw := hX.lt
  have B0 : Below w.heap.size w (w.alloc (.cells #[.bool false, .bool false, .slice none 0 0, .slice none 0 0, .slice none 0 0] 26)) := (Below.refl _ _).alloc (Nat.le_refl _) _
  have R := Lib.hid (Box.new w 26 #[.bool false, .bool false, .slice none 0 0, .slice none 0 0, .slice none 0 0])
  have X := Lib.hid (hX.after B0)
  have U : Hid (But (fun k => k = g) w (w.alloc (.cells #[.bool false, .bool false, .slice none 0 0, .slice none 0 0, .slice none 0 0] 26))) := Lib.hid (But.ofBelow B0)
  have hz : w.heap.size < ((w.alloc (.cells #[.bool false, .bool false, .slice none 0 0, .slice none 0 0, .slice none 0 0] 26))).heap.size := R.out.lt
  obtain ⟨q, hq⟩ : ∃ q, q = skipN s.data.toList p := ⟨_, rfl⟩
  have HQ := Lib.hid hq
  have hsk := skipN_le (l := s.data.toList) (p := p) (by rw [HL.out]; exact hp)
  rw [HL.out, ← hq] at hsk
  clear hX hd hq B0
  go_enter Tryz.func17, Tryz.ntmps17
  go_upto_region 1 with fail
  change Code.wp _ _ _ _ (w.alloc (.cells #[.bool false, .bool false, .slice none 0 0, .slice none 0 0, .slice none 0 0] 26))
  generalize (w.alloc (.cells #[.bool false, .bool false, .slice none 0 0, .slice none 0 0, .slice none 0 0] 26)) = u0 at *
  go_wp2_with fail
  refine (skipN_any g s p m u0 X.out (by omega) hp).mono ?_
  rintro e w1 ⟨rfl, X1, b1⟩
  rw [← HQ.out] at X1
  replace R := Lib.hid (b1.box R.out (by omega))
  replace U := Lib.hid (U.out.trans b1 (fun k hk => .inl hk))
  replace X := Lib.hid X1
  have hz1 := b1.size
  clear X1 b1
  go_wp2_with fail
  refine (peek_any g s q m w1 X.out (by omega)).mono ?_
  rintro e w2 ⟨b2, ⟨h2, rfl⟩ | ⟨h2, rfl⟩⟩
  · unfold FaultN
    go_wp2_with fail
    exact ⟨rfl, vn_no (by rw [show s.size = s.data.toList.length from HL.out.symm]; exact Nt.short (by rw [HL.out, ← HQ.out]; exact h2)) (by decide) (U.out.trans (But.ofBelow (S := fun _ => False) b2) (fun _ h => h.elim))⟩
  obtain ⟨x, hx⟩ : ∃ x, x = s.data.toList.getD q 0 := ⟨_, rfl⟩
  rw [← hx]
  have HXC : Hid (s.data.toList.getD (skipN s.data.toList p) 0 = x) := Lib.hid (by rw [← HQ.out, hx])
  have HQL : Hid (skipN s.data.toList p < s.data.toList.length) := Lib.hid (by rw [← HQ.out, HL.out]; exact h2)
  replace R := Lib.hid (R.out.after b2)
  replace X := Lib.hid (X.out.after b2)
  replace U := Lib.hid (U.out.trans (But.ofBelow (S := fun _ => False) b2) (fun _ h => h.elim))
  have hz2 := b2.size
  clear b2 hx
  have x1 := X.out.cell 1 rfl
  have f1 := X.out.frozen 1
  have x2 := X.out.cell 2 rfl
  have f2 := X.out.frozen 2
  have hq6 : (q : Int) ≤ 1000000 := by omega
  have hm6 : (m : Int) ≤ 512 := by omega
  have HB1 := Lib.hid (beg_of x)
  have hx255 := x.toNat_lt
  go_wp2_with fail
  refine (is_any ⟨begL.toArray⟩ x _).mono ?_
  rintro e w9 ⟨rfl, rfl⟩
  have hbl : (ByteArray.mk begL.toArray).data.toList = begL := by simp
  rw [hbl]
  clear hbl
  cases hbl : isIn begL x with
  | true =>
    have HBG : Hid (begB x = true) := Lib.hid (by rw [← HB1.out, hbl]; rfl)
    clear hbl HB1
    have X3 : Box (w9.setCell ⟨g, 2, none⟩ (.int .i64 ((m : Int) + 1))) g 59 (RdN s q (m + 1)) := X.out.set 2 _
    have b3 : But (fun k => k = g) w9 (w9.setCell ⟨g, 2, none⟩ (.int .i64 ((m : Int) + 1))) := (But.refl (fun k => k = g) w9).setCell (p := ⟨g, 2, none⟩) (.inl rfl) _
    go_upto_region 6 with fail
    change Code.wp _ _ _ _ (w9.setCell ⟨g, 2, none⟩ (.int .i64 ((m : Int) + 1)))
    generalize (w9.setCell ⟨g, 2, none⟩ (.int .i64 ((m : Int) + 1))) = w3 at *
    replace R := Lib.hid (b3.box R.out (by omega))
    replace U := Lib.hid (U.out.trans b3 (fun k hk => .inl hk))
    replace X := Lib.hid X3
    have hz3 := b3.size
    clear X3 b3 x1 f1 x2 f2
    have x1 := X.out.cell 1 rfl
    have f1 := X.out.frozen 1
    have x2 := X.out.cell 2 rfl
    by_cases hm : 512 < m + 1
    · have hm' : (512 : Int) < (m : Int) + 1 := by omega
      have HE : Hid (Nt s.data.toList none p lv m (RV.err q 4)) := Lib.hid (by rw [HQ.out]; exact Nt.long HQL.out (by rw [HXC.out]; exact HBG.out) (.inl hm))
      clear hm
      go_wp2_with fail
      refine (wrong_any q 4 _).mono ?_
      rintro e w8 ⟨rfl, rfl⟩
      unfold FaultN
      go_wp2_with fail
      exact ⟨rfl, vn_no HE.out (by decide) U.out⟩
    have hm' : ¬ (512 : Int) < (m : Int) + 1 := by omega
    by_cases h40 : x = 40
    · obtain ⟨e1, e2, e3⟩ := bEq (a := x) 40 40 rfl (by rw [h40]; rfl)
      by_cases hlv : 16 < lv
      · have hlv' : (16 : Int) < lv := by omega
        have HE : Hid (Nt s.data.toList none p lv m (RV.err q 4)) := Lib.hid (by rw [HQ.out]; exact Nt.long HQL.out (by rw [HXC.out]; exact HBG.out) (.inr ⟨by rw [HXC.out]; exact h40, hlv⟩))
        clear hlv h40 e3
        go_wp2_with fail
        refine (wrong_any q 4 _).mono ?_
        rintro e w8 ⟨rfl, rfl⟩
        unfold FaultN
        go_wp2_with fail
        exact ⟨rfl, vn_no HE.out (by decide) U.out⟩
      · have hlv' : ¬ (16 : Int) < lv := by omega
        have HLI : Hid (∀ r, Nt s.data.toList (some []) (q + 1) lv (m + 1) r → Nt s.data.toList none p lv m r) := Lib.hid (fun r hr => Nt.list HQL.out (by rw [HXC.out]; exact h40) (by omega) (by omega) (by rw [← HQ.out]; exact hr))
        clear h40 e3
        go_upto_region 11 with fail
        have X4 : Box (w3.setCell ⟨g, 1, none⟩ (.int .i64 ((q : Int) + 1))) g 59 (RdN s (q + 1) (m + 1)) := X.out.set 1 _
        have b4 : But (fun k => k = g) w3 (w3.setCell ⟨g, 1, none⟩ (.int .i64 ((q : Int) + 1))) := (But.refl (fun k => k = g) w3).setCell (p := ⟨g, 1, none⟩) (.inl rfl) _
        change Code.wp _ _ _ _ (w3.setCell ⟨g, 1, none⟩ (.int .i64 ((q : Int) + 1)))
        generalize (w3.setCell ⟨g, 1, none⟩ (.int .i64 ((q : Int) + 1))) = w4 at *
        replace R := Lib.hid (b4.box R.out (by omega))
        replace U := Lib.hid (U.out.trans b4 (fun k hk => .inl hk))
        replace X := Lib.hid X4
        have hz4 := b4.size
        clear X4 b4 x1 f1 x2
        go_wp2_with fail
        refine (HD.out (q + 1) (m + 1) lv w4 X.out (by omega) (by omega) (by omega) (by omega)).mono ?_
        rintro e w5 ⟨b5, r, hr, ⟨h5, rfl⟩ | ⟨h5, v, rfl, rd, X5⟩⟩
        · have HR := Lib.hid (HLI.out r hr)
          replace U := Lib.hid (U.out.trans b5 (fun k hk => .inl hk))
          have H5 := Lib.hid h5
          clear hr h5 b5
          unfold FaultN
          go_wp2_with fail
          exact ⟨rfl, U.out, r, HR.out, .inl ⟨H5.out, rfl⟩⟩
        · have HR := Lib.hid (HLI.out r hr)
          replace U := Lib.hid (U.out.trans b5 (fun k hk => .inl hk))
          replace R := Lib.hid (b5.box R.out (by omega))
          replace X := Lib.hid X5
          have RD := Lib.hid rd
          have H5 := Lib.hid h5
          have hz5 := b5.size
          clear hr h5 b5 X5 rd
          obtain ⟨vl, vh, a1, n1, c1, a2, n2, c2, a3, n3, c3⟩ := v
          unfold SV.val
          go_wp2_with (refine wpList_store_box (cells := #[.bool vl, .bool vh, .slice a1 n1 c1, .slice a2 n2 c2, .slice a3 n3 c3]) rfl 26 _ _ rfl R.out (by rfl) (by rfl) rfl (by kernel_rfl) (by simp [Value.oneCell']) ?_; intro u9 X9 st9)
          have b9 : But (fun k => k = w.heap.size) w5 u9 := But.ofStored st9 (st9.below 0 w5 (Nat.zero_le _) (Below.refl _ _))
          exact bodyPost_ret (v := .agg #[.bool vl, .bool vh, .slice a1 n1 c1, .slice a2 n2 c2, .slice a3 n3 c3]) (box_result rfl _ _ (by rfl) X9 Tryz.underlying26 rfl (by kernel_rfl)) rfl ⟨U.out.trans b9 (fun k hk => .inr (by omega)), r, HR.out, .inr ⟨H5.out, ⟨vl, vh, a1, n1, c1, a2, n2, c2, a3, n3, c3⟩, rfl, (RD.out.but b9 (fun k hk e => by omega)).mono (fun k hk => by omega), b9.box X.out (by omega)⟩⟩
    obtain ⟨e1, e2, e3⟩ := bNe (a := x) 40 40 rfl (fun e => h40 (by rw [← UInt8.toNat_inj]; exact e))
    have H40 := Lib.hid h40
    clear h40 e3
    by_cases h91 : x = 91
    · obtain ⟨e4, e5, e6⟩ := bEq (a := x) 91 91 rfl (by rw [h91]; rfl)
      obtain ⟨N, hN⟩ : ∃ N, N = nHint s.data.toList (q + 1) (m + 1) := ⟨_, rfl⟩
      have HN : Hid (Nt s.data.toList none p lv m N) := Lib.hid (by rw [hN, HQ.out]; exact Nt.hint HQL.out (by rw [HXC.out]; exact h91) (by omega))
      have HNE := Lib.hid hN
      clear h91 e6 hN
      go_upto_region 14 with fail
      have X4 : Box (w3.setCell ⟨g, 1, none⟩ (.int .i64 ((q : Int) + 1))) g 59 (RdN s (q + 1) (m + 1)) := X.out.set 1 _
      have b4 : But (fun k => k = g) w3 (w3.setCell ⟨g, 1, none⟩ (.int .i64 ((q : Int) + 1))) := (But.refl (fun k => k = g) w3).setCell (p := ⟨g, 1, none⟩) (.inl rfl) _
      change Code.wp _ _ _ _ (w3.setCell ⟨g, 1, none⟩ (.int .i64 ((q : Int) + 1)))
      generalize (w3.setCell ⟨g, 1, none⟩ (.int .i64 ((q : Int) + 1))) = w4 at *
      replace R := Lib.hid (b4.box R.out (by omega))
      replace U := Lib.hid (U.out.trans b4 (fun k hk => .inl hk))
      replace X := Lib.hid X4
      have hz4 := b4.size
      clear X4 b4 x1 f1 x2
      go_wp2_with fail
      refine (skipN_any g s (q + 1) (m + 1) w4 X.out (by omega) (by omega)).mono ?_
      rintro e w5 ⟨rfl, X5, b5⟩
      obtain ⟨q1, hq1⟩ : ∃ q1, q1 = skipN s.data.toList (q + 1) := ⟨_, rfl⟩
      have hk1 := skipN_le (l := s.data.toList) (p := q + 1) (by rw [HL.out]; omega)
      rw [HL.out, ← hq1] at hk1
      rw [← hq1] at X5
      replace R := Lib.hid (b5.box R.out (by omega))
      replace U := Lib.hid (U.out.trans b5 (fun k hk => .inl hk))
      replace X := Lib.hid X5
      have hz5 := b5.size
      have HQ1 := Lib.hid hq1
      clear X5 b5 hq1
      go_wp2_with fail
      refine (plainN_any g s q1 (m + 1) w5 X.out hs (by omega)).mono ?_
      rintro e w6 ⟨b6, ⟨h6, rfl⟩ | ⟨h6, a1, n1, c1, rfl, s6, i6, X6⟩⟩
      · replace U := Lib.hid (U.out.trans b6 (fun k hk => .inl hk))
        have HE : Hid (N = RV.err (nPlain s.data.toList q1).p (nPlain s.data.toList q1).e) := Lib.hid (by rw [HNE.out]; unfold nHint; dsimp only; rw [← HQ1.out, if_pos h6])
        have H6 := Lib.hid h6
        clear b6 h6
        unfold FaultN
        go_wp2_with fail
        exact ⟨rfl, vn_no (by rw [← HE.out]; exact HN.out) H6.out U.out⟩
      have hp6 := nPlain_place h6
      rw [HL.out] at hp6
      have HNF : Hid (N = if s.data.toList.length ≤ skipN s.data.toList (nPlain s.data.toList q1).p then RV.err s.data.toList.length 2 else if s.data.toList.getD (skipN s.data.toList (nPlain s.data.toList q1).p) 0 ≠ 93 then RV.err (skipN s.data.toList (nPlain s.data.toList q1).p) 3 else
          let d := nPlain s.data.toList (skipN s.data.toList (skipN s.data.toList (nPlain s.data.toList q1).p + 1))
          if d.e ≠ 0 then RV.err d.p d.e else ⟨.mk false true (nPlain s.data.toList q1).b d.b [], d.p, m + 1, 0⟩) := Lib.hid (by rw [HNE.out]; unfold nHint; dsimp only; rw [← HQ1.out, if_neg (by rw [h6]; simp)])
      obtain ⟨hb, hhb⟩ : ∃ hb, hb = (nPlain s.data.toList q1).b := ⟨_, rfl⟩
      obtain ⟨q2, hq2⟩ : ∃ q2, q2 = (nPlain s.data.toList q1).p := ⟨_, rfl⟩
      rw [← hq2, ← hhb] at HNF
      rw [← hhb] at s6
      rw [← hq2] at X6 hp6
      replace R := Lib.hid (b6.box R.out (by omega))
      replace U := Lib.hid (U.out.trans b6 (fun k hk => .inl hk))
      replace X := Lib.hid X6
      have S1 := Lib.hid s6
      have I1 := Lib.hid (i6.mono (fun k hk => show w.heap.size < k by omega))
      have hz6 := b6.size
      clear b6 h6 s6 i6 X6 HNE hhb hq2
      go_upto_region 16 with (refine wpList_store_box (cells := #[.bool false, .bool true, .slice a1 n1 c1, .slice none 0 0, .slice none 0 0]) rfl 26 _ _ rfl (Box.new _ _ _) (by rfl) (by rfl) rfl (by kernel_rfl) (by simp [Value.oneCell']) ?_; intro u7 V7 st7)
      have b7 : Below w6.heap.size w6 u7 := st7.below w6.heap.size w6 (Nat.le_refl _) ((Below.refl _ _).alloc (Nat.le_refl _) _)
      replace R := Lib.hid (R.out.after b7)
      replace X := Lib.hid (X.out.after b7)
      replace U := Lib.hid (U.out.trans (But.ofBelow (S := fun _ => False) b7) (fun _ h => h.elim))
      have S2 := Lib.hid (S1.out.after b7)
      have V := Lib.hid V7
      have hz7 := V7.lt
      have hvl : w.heap.size < w6.heap.size := by omega
      have HI1 : Hid (InB (fun k => w.heap.size < k ∧ k < w6.heap.size) a1 n1) := Lib.hid (S1.out.inB.elim (fun h => .inl h) (fun h => I1.out.elim (fun h' => .inl h') (fun h' => .inr fun b o s e => ⟨h' b o s e, h b o s e⟩)))
      clear b7 st7 V7 S1 I1
      generalize w6.heap.size = vb at *
      go_wp2_with fail
      refine (skipN_any g s q2 (m + 1) u7 X.out (by omega) (by omega)).mono ?_
      rintro e w8 ⟨rfl, X8, b8⟩
      obtain ⟨q3, hq3⟩ : ∃ q3, q3 = skipN s.data.toList q2 := ⟨_, rfl⟩
      have hk3 := skipN_le (l := s.data.toList) (p := q2) (by rw [HL.out]; omega)
      rw [HL.out, ← hq3] at hk3
      rw [← hq3] at X8 HNF
      replace R := Lib.hid (b8.box R.out (by omega))
      replace V := Lib.hid (b8.box V.out (by omega))
      replace S2 := Lib.hid (S2.out.but b8 HI1.out (fun k hk e => by omega))
      replace U := Lib.hid (U.out.trans b8 (fun k hk => .inl hk))
      replace X := Lib.hid X8
      have hz8 := b8.size
      clear X8 b8 hq3
      go_wp2_with fail
      refine (signN_any g s q3 (m + 1) 93 w8 X.out (by omega)).mono ?_
      rintro e w10 ⟨b10, ⟨h10, rfl⟩ | ⟨h10, k10, rfl⟩ | ⟨h10, k10, rfl, X10⟩⟩
      · replace U := Lib.hid (U.out.trans b10 (fun k hk => .inl hk))
        have HE : Hid (N = RV.err s.size 2) := Lib.hid (by rw [HNF.out, if_pos (by rw [HL.out]; exact h10), HL.out])
        clear b10
        unfold FaultN
        go_wp2_with fail
        exact ⟨rfl, vn_no (by rw [← HE.out]; exact HN.out) (by decide) U.out⟩
      · replace U := Lib.hid (U.out.trans b10 (fun k hk => .inl hk))
        have HE : Hid (N = RV.err q3 3) := Lib.hid (by rw [HNF.out, if_neg (by rw [HL.out]; omega), if_pos k10])
        clear b10 k10
        unfold FaultN
        go_wp2_with fail
        exact ⟨rfl, vn_no (by rw [← HE.out]; exact HN.out) (by decide) U.out⟩
      replace HNF := Lib.hid (HNF.out.trans (by rw [if_neg (by rw [HL.out]; omega), if_neg (by rw [k10]; simp)]))
      replace R := Lib.hid (b10.box R.out (by omega))
      replace V := Lib.hid (b10.box V.out (by omega))
      replace S2 := Lib.hid (S2.out.but b10 HI1.out (fun k hk e => by omega))
      replace U := Lib.hid (U.out.trans b10 (fun k hk => .inl hk))
      replace X := Lib.hid X10
      have hz10 := b10.size
      clear X10 b10 k10
      go_wp2_with fail
      refine (skipN_any g s (q3 + 1) (m + 1) w10 X.out (by omega) (by omega)).mono ?_
      rintro e w11 ⟨rfl, X11, b11⟩
      obtain ⟨q4, hq4⟩ : ∃ q4, q4 = skipN s.data.toList (q3 + 1) := ⟨_, rfl⟩
      have hk4 := skipN_le (l := s.data.toList) (p := q3 + 1) (by rw [HL.out]; omega)
      rw [HL.out, ← hq4] at hk4
      rw [← hq4] at X11 HNF
      replace R := Lib.hid (b11.box R.out (by omega))
      replace V := Lib.hid (b11.box V.out (by omega))
      replace S2 := Lib.hid (S2.out.but b11 HI1.out (fun k hk e => by omega))
      replace U := Lib.hid (U.out.trans b11 (fun k hk => .inl hk))
      replace X := Lib.hid X11
      have hz11 := b11.size
      clear X11 b11 hq4
      go_wp2_with fail
      refine (plainN_any g s q4 (m + 1) w11 X.out hs (by omega)).mono ?_
      rintro e w12 ⟨b12, ⟨h12, rfl⟩ | ⟨h12, a2, n2, c2, rfl, s12, i12, X12⟩⟩
      · replace U := Lib.hid (U.out.trans b12 (fun k hk => .inl hk))
        have HE : Hid (N = RV.err (nPlain s.data.toList q4).p (nPlain s.data.toList q4).e) := Lib.hid (by rw [HNF.out, if_pos h12])
        have H12 := Lib.hid h12
        clear b12 h12
        unfold FaultN
        go_wp2_with fail
        exact ⟨rfl, vn_no (by rw [← HE.out]; exact HN.out) H12.out U.out⟩
      have HE : Hid (N = ⟨.mk false true hb (nPlain s.data.toList q4).b [], (nPlain s.data.toList q4).p, m + 1, 0⟩) := Lib.hid (by rw [HNF.out, if_neg (by rw [h12]; simp)])
      replace R := Lib.hid (b12.box R.out (by omega))
      replace V := Lib.hid (b12.box V.out (by omega))
      replace S2 := Lib.hid (S2.out.but b12 HI1.out (fun k hk e => by omega))
      replace U := Lib.hid (U.out.trans b12 (fun k hk => .inl hk))
      replace X := Lib.hid X12
      have S3 := Lib.hid s12
      have I3 := Lib.hid (i12.mono (fun k hk => show vb < k by omega))
      have hz12 := b12.size
      clear b12 h12 s12 i12 X12 HNF
      have v3 := V.out.cell 3 rfl
      have fv3 := V.out.frozen 3
      go_upto_region 20 with fail
      have b13 : But (fun k => k = vb) w12 (w12.setCell ⟨vb, 3, none⟩ (.slice a2 n2 c2)) := (But.refl (fun k => k = vb) w12).setCell (p := ⟨vb, 3, none⟩) (.inl rfl) _
      have V13 : Box (w12.setCell ⟨vb, 3, none⟩ (.slice a2 n2 c2)) vb 26 #[.bool false, .bool true, .slice a1 n1 c1, .slice a2 n2 c2, .slice none 0 0] := V.out.set 3 _
      change Code.wp _ _ _ _ (w12.setCell ⟨vb, 3, none⟩ (.slice a2 n2 c2))
      generalize (w12.setCell ⟨vb, 3, none⟩ (.slice a2 n2 c2)) = w13 at *
      replace R := Lib.hid (b13.box R.out (by omega))
      replace V := Lib.hid V13
      replace X := Lib.hid (b13.box X.out (by omega))
      replace S2 := Lib.hid (S2.out.but b13 HI1.out (fun k hk e => by omega))
      replace S3 := Lib.hid (S3.out.but b13 I3.out (fun k hk e => by omega))
      replace U := Lib.hid (U.out.trans b13 (fun k hk => .inr (by omega)))
      clear v3 fv3 b13 V13
      go_wp2_with first | (refine wpList_load_box rfl 26 _ rfl V.out (by rfl) Tryz.underlying26 rfl (by kernel_rfl) ?_) | (refine wpList_store_box (cells := #[.bool false, .bool true, .slice a1 n1 c1, .slice a2 n2 c2, .slice none 0 0]) rfl 26 _ _ rfl R.out (by rfl) (by rfl) rfl (by kernel_rfl) (by simp [Value.oneCell']) ?_; intro u14 X14 st14)
      have b14 : But (fun k => k = w.heap.size) w13 u14 := But.ofStored st14 (st14.below 0 w13 (Nat.zero_le _) (Below.refl _ _))
      exact bodyPost_ret (v := .agg #[.bool false, .bool true, .slice a1 n1 c1, .slice a2 n2 c2, .slice none 0 0]) (box_result rfl _ _ (by rfl) X14 Tryz.underlying26 rfl (by kernel_rfl)) rfl (vn_yes (v := ⟨false, true, a1, n1, c1, a2, n2, c2, none, 0, 0⟩) (by rw [← HE.out]; exact HN.out) (U.out.trans b14 (fun k hk => .inr (by omega)))
        (rd_hint (S2.out.but b14 HI1.out (fun k hk e => by omega)) (S3.out.but b14 I3.out (fun k hk e => by omega)) (HI1.out.mono (fun k hk => by omega)) (I3.out.mono (fun k hk => by omega))) (b14.box X.out (by omega)))
    · obtain ⟨e4, e5, e6⟩ := bNe (a := x) 91 91 rfl (fun e => h91 (by rw [← UInt8.toNat_inj]; exact e))
      obtain ⟨N, hN⟩ : ∃ N, N = nAtom s.data.toList q (m + 1) := ⟨_, rfl⟩
      have HN : Hid (Nt s.data.toList none p lv m N) := Lib.hid (by rw [hN, HQ.out]; exact Nt.atom HQL.out (by rw [HXC.out]; exact HBG.out) (by rw [HXC.out]; exact H40.out) (by rw [HXC.out]; exact h91) (by omega))
      have HNE := Lib.hid hN
      clear h91 e6 hN
      go_wp2_with fail
      refine (plainN_any g s q (m + 1) w3 X.out hs (by omega)).mono ?_
      rintro e w6 ⟨b6, ⟨h6, rfl⟩ | ⟨h6, a1, n1, c1, rfl, s6, i6, X6⟩⟩
      · replace U := Lib.hid (U.out.trans b6 (fun k hk => .inl hk))
        have HE : Hid (N = RV.err (nPlain s.data.toList q).p (nPlain s.data.toList q).e) := Lib.hid (by rw [HNE.out]; unfold nAtom; dsimp only; rw [if_pos h6])
        have H6 := Lib.hid h6
        clear b6 h6
        unfold FaultN
        go_wp2_with fail
        exact ⟨rfl, vn_no (by rw [← HE.out]; exact HN.out) H6.out U.out⟩
      have HE : Hid (N = ⟨.mk false false [] (nPlain s.data.toList q).b [], (nPlain s.data.toList q).p, m + 1, 0⟩) := Lib.hid (by rw [HNE.out]; unfold nAtom; dsimp only; rw [if_neg (by rw [h6]; simp)])
      replace R := Lib.hid (b6.box R.out (by omega))
      replace U := Lib.hid (U.out.trans b6 (fun k hk => .inl hk))
      replace X := Lib.hid X6
      have S1 := Lib.hid s6
      have I1 := Lib.hid (i6.mono (fun k hk => show w.heap.size < k by omega))
      clear b6 h6 s6 i6 X6 HNE
      go_wp2_with (refine wpList_store_box (cells := #[.bool false, .bool false, .slice none 0 0, .slice a1 n1 c1, .slice none 0 0]) rfl 26 _ _ rfl R.out (by rfl) (by rfl) rfl (by kernel_rfl) (by simp [Value.oneCell']) ?_; intro u14 X14 st14)
      have b14 : But (fun k => k = w.heap.size) w6 u14 := But.ofStored st14 (st14.below 0 w6 (Nat.zero_le _) (Below.refl _ _))
      exact bodyPost_ret (v := .agg #[.bool false, .bool false, .slice none 0 0, .slice a1 n1 c1, .slice none 0 0]) (box_result rfl _ _ (by rfl) X14 Tryz.underlying26 rfl (by kernel_rfl)) rfl (vn_yes (v := ⟨false, false, none, 0, 0, a1, n1, c1, none, 0, 0⟩) (by rw [← HE.out]; exact HN.out) (U.out.trans b14 (fun k hk => .inr (by omega)))
        (rd_atomI (S1.out.but b14 I1.out (fun k hk e => by omega)) (I1.out.mono (fun k hk => by omega))) (b14.box X.out (by omega)))
  | false =>
    rw [hbl] at HB1
    clear hbl
    go_wp2_with fail
    refine (is_any ⟨signL.toArray⟩ x _).mono ?_
    rintro e w8 ⟨rfl, rfl⟩
    rw [goodS]
    cases hsg : signB x with
    | false =>
      have HBG : Hid (begB x = false) := Lib.hid (by rw [← HB1.out, hsg]; rfl)
      clear hsg HB1
      go_wp2_with fail
      refine (wrong_any q 3 _).mono ?_
      rintro e w8 ⟨rfl, rfl⟩
      unfold FaultN
      go_wp2_with fail
      exact ⟨rfl, vn_no (by rw [HQ.out]; exact Nt.bad HQL.out (by rw [HXC.out]; exact HBG.out)) (by decide) U.out⟩
    | true =>
      have HBG : Hid (begB x = true) := Lib.hid (by rw [← HB1.out, hsg]; rfl)
      clear hsg HB1
      have X3 : Box (w8.setCell ⟨g, 2, none⟩ (.int .i64 ((m : Int) + 1))) g 59 (RdN s q (m + 1)) := X.out.set 2 _
      have b3 : But (fun k => k = g) w8 (w8.setCell ⟨g, 2, none⟩ (.int .i64 ((m : Int) + 1))) := (But.refl (fun k => k = g) w8).setCell (p := ⟨g, 2, none⟩) (.inl rfl) _
      go_upto_region 6 with fail
      change Code.wp _ _ _ _ (w8.setCell ⟨g, 2, none⟩ (.int .i64 ((m : Int) + 1)))
      generalize (w8.setCell ⟨g, 2, none⟩ (.int .i64 ((m : Int) + 1))) = w3 at *
      replace R := Lib.hid (b3.box R.out (by omega))
      replace U := Lib.hid (U.out.trans b3 (fun k hk => .inl hk))
      replace X := Lib.hid X3
      have hz3 := b3.size
      clear X3 b3 x1 f1 x2 f2
      have x1 := X.out.cell 1 rfl
      have f1 := X.out.frozen 1
      have x2 := X.out.cell 2 rfl
      by_cases hm : 512 < m + 1
      · have hm' : (512 : Int) < (m : Int) + 1 := by omega
        have HE : Hid (Nt s.data.toList none p lv m (RV.err q 4)) := Lib.hid (by rw [HQ.out]; exact Nt.long HQL.out (by rw [HXC.out]; exact HBG.out) (.inl hm))
        clear hm
        go_wp2_with fail
        refine (wrong_any q 4 _).mono ?_
        rintro e w8 ⟨rfl, rfl⟩
        unfold FaultN
        go_wp2_with fail
        exact ⟨rfl, vn_no HE.out (by decide) U.out⟩
      have hm' : ¬ (512 : Int) < (m : Int) + 1 := by omega
      by_cases h40 : x = 40
      · obtain ⟨e1, e2, e3⟩ := bEq (a := x) 40 40 rfl (by rw [h40]; rfl)
        by_cases hlv : 16 < lv
        · have hlv' : (16 : Int) < lv := by omega
          have HE : Hid (Nt s.data.toList none p lv m (RV.err q 4)) := Lib.hid (by rw [HQ.out]; exact Nt.long HQL.out (by rw [HXC.out]; exact HBG.out) (.inr ⟨by rw [HXC.out]; exact h40, hlv⟩))
          clear hlv h40 e3
          go_wp2_with fail
          refine (wrong_any q 4 _).mono ?_
          rintro e w8 ⟨rfl, rfl⟩
          unfold FaultN
          go_wp2_with fail
          exact ⟨rfl, vn_no HE.out (by decide) U.out⟩
        · have hlv' : ¬ (16 : Int) < lv := by omega
          have HLI : Hid (∀ r, Nt s.data.toList (some []) (q + 1) lv (m + 1) r → Nt s.data.toList none p lv m r) := Lib.hid (fun r hr => Nt.list HQL.out (by rw [HXC.out]; exact h40) (by omega) (by omega) (by rw [← HQ.out]; exact hr))
          clear h40 e3
          go_upto_region 11 with fail
          have X4 : Box (w3.setCell ⟨g, 1, none⟩ (.int .i64 ((q : Int) + 1))) g 59 (RdN s (q + 1) (m + 1)) := X.out.set 1 _
          have b4 : But (fun k => k = g) w3 (w3.setCell ⟨g, 1, none⟩ (.int .i64 ((q : Int) + 1))) := (But.refl (fun k => k = g) w3).setCell (p := ⟨g, 1, none⟩) (.inl rfl) _
          change Code.wp _ _ _ _ (w3.setCell ⟨g, 1, none⟩ (.int .i64 ((q : Int) + 1)))
          generalize (w3.setCell ⟨g, 1, none⟩ (.int .i64 ((q : Int) + 1))) = w4 at *
          replace R := Lib.hid (b4.box R.out (by omega))
          replace U := Lib.hid (U.out.trans b4 (fun k hk => .inl hk))
          replace X := Lib.hid X4
          have hz4 := b4.size
          clear X4 b4 x1 f1 x2
          go_wp2_with fail
          refine (HD.out (q + 1) (m + 1) lv w4 X.out (by omega) (by omega) (by omega) (by omega)).mono ?_
          rintro e w5 ⟨b5, r, hr, ⟨h5, rfl⟩ | ⟨h5, v, rfl, rd, X5⟩⟩
          · have HR := Lib.hid (HLI.out r hr)
            replace U := Lib.hid (U.out.trans b5 (fun k hk => .inl hk))
            have H5 := Lib.hid h5
            clear hr h5 b5
            unfold FaultN
            go_wp2_with fail
            exact ⟨rfl, U.out, r, HR.out, .inl ⟨H5.out, rfl⟩⟩
          · have HR := Lib.hid (HLI.out r hr)
            replace U := Lib.hid (U.out.trans b5 (fun k hk => .inl hk))
            replace R := Lib.hid (b5.box R.out (by omega))
            replace X := Lib.hid X5
            have RD := Lib.hid rd
            have H5 := Lib.hid h5
            have hz5 := b5.size
            clear hr h5 b5 X5 rd
            obtain ⟨vl, vh, a1, n1, c1, a2, n2, c2, a3, n3, c3⟩ := v
            unfold SV.val
            go_wp2_with (refine wpList_store_box (cells := #[.bool vl, .bool vh, .slice a1 n1 c1, .slice a2 n2 c2, .slice a3 n3 c3]) rfl 26 _ _ rfl R.out (by rfl) (by rfl) rfl (by kernel_rfl) (by simp [Value.oneCell']) ?_; intro u9 X9 st9)
            have b9 : But (fun k => k = w.heap.size) w5 u9 := But.ofStored st9 (st9.below 0 w5 (Nat.zero_le _) (Below.refl _ _))
            exact bodyPost_ret (v := .agg #[.bool vl, .bool vh, .slice a1 n1 c1, .slice a2 n2 c2, .slice a3 n3 c3]) (box_result rfl _ _ (by rfl) X9 Tryz.underlying26 rfl (by kernel_rfl)) rfl ⟨U.out.trans b9 (fun k hk => .inr (by omega)), r, HR.out, .inr ⟨H5.out, ⟨vl, vh, a1, n1, c1, a2, n2, c2, a3, n3, c3⟩, rfl, (RD.out.but b9 (fun k hk e => by omega)).mono (fun k hk => by omega), b9.box X.out (by omega)⟩⟩
      obtain ⟨e1, e2, e3⟩ := bNe (a := x) 40 40 rfl (fun e => h40 (by rw [← UInt8.toNat_inj]; exact e))
      have H40 := Lib.hid h40
      clear h40 e3
      by_cases h91 : x = 91
      · obtain ⟨e4, e5, e6⟩ := bEq (a := x) 91 91 rfl (by rw [h91]; rfl)
        obtain ⟨N, hN⟩ : ∃ N, N = nHint s.data.toList (q + 1) (m + 1) := ⟨_, rfl⟩
        have HN : Hid (Nt s.data.toList none p lv m N) := Lib.hid (by rw [hN, HQ.out]; exact Nt.hint HQL.out (by rw [HXC.out]; exact h91) (by omega))
        have HNE := Lib.hid hN
        clear h91 e6 hN
        go_upto_region 14 with fail
        have X4 : Box (w3.setCell ⟨g, 1, none⟩ (.int .i64 ((q : Int) + 1))) g 59 (RdN s (q + 1) (m + 1)) := X.out.set 1 _
        have b4 : But (fun k => k = g) w3 (w3.setCell ⟨g, 1, none⟩ (.int .i64 ((q : Int) + 1))) := (But.refl (fun k => k = g) w3).setCell (p := ⟨g, 1, none⟩) (.inl rfl) _
        change Code.wp _ _ _ _ (w3.setCell ⟨g, 1, none⟩ (.int .i64 ((q : Int) + 1)))
        generalize (w3.setCell ⟨g, 1, none⟩ (.int .i64 ((q : Int) + 1))) = w4 at *
        replace R := Lib.hid (b4.box R.out (by omega))
        replace U := Lib.hid (U.out.trans b4 (fun k hk => .inl hk))
        replace X := Lib.hid X4
        have hz4 := b4.size
        clear X4 b4 x1 f1 x2
        go_wp2_with fail
        refine (skipN_any g s (q + 1) (m + 1) w4 X.out (by omega) (by omega)).mono ?_
        rintro e w5 ⟨rfl, X5, b5⟩
        obtain ⟨q1, hq1⟩ : ∃ q1, q1 = skipN s.data.toList (q + 1) := ⟨_, rfl⟩
        have hk1 := skipN_le (l := s.data.toList) (p := q + 1) (by rw [HL.out]; omega)
        rw [HL.out, ← hq1] at hk1
        rw [← hq1] at X5
        replace R := Lib.hid (b5.box R.out (by omega))
        replace U := Lib.hid (U.out.trans b5 (fun k hk => .inl hk))
        replace X := Lib.hid X5
        have hz5 := b5.size
        have HQ1 := Lib.hid hq1
        clear X5 b5 hq1
        go_wp2_with fail
        refine (plainN_any g s q1 (m + 1) w5 X.out hs (by omega)).mono ?_
        rintro e w6 ⟨b6, ⟨h6, rfl⟩ | ⟨h6, a1, n1, c1, rfl, s6, i6, X6⟩⟩
        · replace U := Lib.hid (U.out.trans b6 (fun k hk => .inl hk))
          have HE : Hid (N = RV.err (nPlain s.data.toList q1).p (nPlain s.data.toList q1).e) := Lib.hid (by rw [HNE.out]; unfold nHint; dsimp only; rw [← HQ1.out, if_pos h6])
          have H6 := Lib.hid h6
          clear b6 h6
          unfold FaultN
          go_wp2_with fail
          exact ⟨rfl, vn_no (by rw [← HE.out]; exact HN.out) H6.out U.out⟩
        have hp6 := nPlain_place h6
        rw [HL.out] at hp6
        have HNF : Hid (N = if s.data.toList.length ≤ skipN s.data.toList (nPlain s.data.toList q1).p then RV.err s.data.toList.length 2 else if s.data.toList.getD (skipN s.data.toList (nPlain s.data.toList q1).p) 0 ≠ 93 then RV.err (skipN s.data.toList (nPlain s.data.toList q1).p) 3 else
            let d := nPlain s.data.toList (skipN s.data.toList (skipN s.data.toList (nPlain s.data.toList q1).p + 1))
            if d.e ≠ 0 then RV.err d.p d.e else ⟨.mk false true (nPlain s.data.toList q1).b d.b [], d.p, m + 1, 0⟩) := Lib.hid (by rw [HNE.out]; unfold nHint; dsimp only; rw [← HQ1.out, if_neg (by rw [h6]; simp)])
        obtain ⟨hb, hhb⟩ : ∃ hb, hb = (nPlain s.data.toList q1).b := ⟨_, rfl⟩
        obtain ⟨q2, hq2⟩ : ∃ q2, q2 = (nPlain s.data.toList q1).p := ⟨_, rfl⟩
        rw [← hq2, ← hhb] at HNF
        rw [← hhb] at s6
        rw [← hq2] at X6 hp6
        replace R := Lib.hid (b6.box R.out (by omega))
        replace U := Lib.hid (U.out.trans b6 (fun k hk => .inl hk))
        replace X := Lib.hid X6
        have S1 := Lib.hid s6
        have I1 := Lib.hid (i6.mono (fun k hk => show w.heap.size < k by omega))
        have hz6 := b6.size
        clear b6 h6 s6 i6 X6 HNE hhb hq2
        go_upto_region 16 with (refine wpList_store_box (cells := #[.bool false, .bool true, .slice a1 n1 c1, .slice none 0 0, .slice none 0 0]) rfl 26 _ _ rfl (Box.new _ _ _) (by rfl) (by rfl) rfl (by kernel_rfl) (by simp [Value.oneCell']) ?_; intro u7 V7 st7)
        have b7 : Below w6.heap.size w6 u7 := st7.below w6.heap.size w6 (Nat.le_refl _) ((Below.refl _ _).alloc (Nat.le_refl _) _)
        replace R := Lib.hid (R.out.after b7)
        replace X := Lib.hid (X.out.after b7)
        replace U := Lib.hid (U.out.trans (But.ofBelow (S := fun _ => False) b7) (fun _ h => h.elim))
        have S2 := Lib.hid (S1.out.after b7)
        have V := Lib.hid V7
        have hz7 := V7.lt
        have hvl : w.heap.size < w6.heap.size := by omega
        have HI1 : Hid (InB (fun k => w.heap.size < k ∧ k < w6.heap.size) a1 n1) := Lib.hid (S1.out.inB.elim (fun h => .inl h) (fun h => I1.out.elim (fun h' => .inl h') (fun h' => .inr fun b o s e => ⟨h' b o s e, h b o s e⟩)))
        clear b7 st7 V7 S1 I1
        generalize w6.heap.size = vb at *
        go_wp2_with fail
        refine (skipN_any g s q2 (m + 1) u7 X.out (by omega) (by omega)).mono ?_
        rintro e w8 ⟨rfl, X8, b8⟩
        obtain ⟨q3, hq3⟩ : ∃ q3, q3 = skipN s.data.toList q2 := ⟨_, rfl⟩
        have hk3 := skipN_le (l := s.data.toList) (p := q2) (by rw [HL.out]; omega)
        rw [HL.out, ← hq3] at hk3
        rw [← hq3] at X8 HNF
        replace R := Lib.hid (b8.box R.out (by omega))
        replace V := Lib.hid (b8.box V.out (by omega))
        replace S2 := Lib.hid (S2.out.but b8 HI1.out (fun k hk e => by omega))
        replace U := Lib.hid (U.out.trans b8 (fun k hk => .inl hk))
        replace X := Lib.hid X8
        have hz8 := b8.size
        clear X8 b8 hq3
        go_wp2_with fail
        refine (signN_any g s q3 (m + 1) 93 w8 X.out (by omega)).mono ?_
        rintro e w10 ⟨b10, ⟨h10, rfl⟩ | ⟨h10, k10, rfl⟩ | ⟨h10, k10, rfl, X10⟩⟩
        · replace U := Lib.hid (U.out.trans b10 (fun k hk => .inl hk))
          have HE : Hid (N = RV.err s.size 2) := Lib.hid (by rw [HNF.out, if_pos (by rw [HL.out]; exact h10), HL.out])
          clear b10
          unfold FaultN
          go_wp2_with fail
          exact ⟨rfl, vn_no (by rw [← HE.out]; exact HN.out) (by decide) U.out⟩
        · replace U := Lib.hid (U.out.trans b10 (fun k hk => .inl hk))
          have HE : Hid (N = RV.err q3 3) := Lib.hid (by rw [HNF.out, if_neg (by rw [HL.out]; omega), if_pos k10])
          clear b10 k10
          unfold FaultN
          go_wp2_with fail
          exact ⟨rfl, vn_no (by rw [← HE.out]; exact HN.out) (by decide) U.out⟩
        replace HNF := Lib.hid (HNF.out.trans (by rw [if_neg (by rw [HL.out]; omega), if_neg (by rw [k10]; simp)]))
        replace R := Lib.hid (b10.box R.out (by omega))
        replace V := Lib.hid (b10.box V.out (by omega))
        replace S2 := Lib.hid (S2.out.but b10 HI1.out (fun k hk e => by omega))
        replace U := Lib.hid (U.out.trans b10 (fun k hk => .inl hk))
        replace X := Lib.hid X10
        have hz10 := b10.size
        clear X10 b10 k10
        go_wp2_with fail
        refine (skipN_any g s (q3 + 1) (m + 1) w10 X.out (by omega) (by omega)).mono ?_
        rintro e w11 ⟨rfl, X11, b11⟩
        obtain ⟨q4, hq4⟩ : ∃ q4, q4 = skipN s.data.toList (q3 + 1) := ⟨_, rfl⟩
        have hk4 := skipN_le (l := s.data.toList) (p := q3 + 1) (by rw [HL.out]; omega)
        rw [HL.out, ← hq4] at hk4
        rw [← hq4] at X11 HNF
        replace R := Lib.hid (b11.box R.out (by omega))
        replace V := Lib.hid (b11.box V.out (by omega))
        replace S2 := Lib.hid (S2.out.but b11 HI1.out (fun k hk e => by omega))
        replace U := Lib.hid (U.out.trans b11 (fun k hk => .inl hk))
        replace X := Lib.hid X11
        have hz11 := b11.size
        clear X11 b11 hq4
        go_wp2_with fail
        refine (plainN_any g s q4 (m + 1) w11 X.out hs (by omega)).mono ?_
        rintro e w12 ⟨b12, ⟨h12, rfl⟩ | ⟨h12, a2, n2, c2, rfl, s12, i12, X12⟩⟩
        · replace U := Lib.hid (U.out.trans b12 (fun k hk => .inl hk))
          have HE : Hid (N = RV.err (nPlain s.data.toList q4).p (nPlain s.data.toList q4).e) := Lib.hid (by rw [HNF.out, if_pos h12])
          have H12 := Lib.hid h12
          clear b12 h12
          unfold FaultN
          go_wp2_with fail
          exact ⟨rfl, vn_no (by rw [← HE.out]; exact HN.out) H12.out U.out⟩
        have HE : Hid (N = ⟨.mk false true hb (nPlain s.data.toList q4).b [], (nPlain s.data.toList q4).p, m + 1, 0⟩) := Lib.hid (by rw [HNF.out, if_neg (by rw [h12]; simp)])
        replace R := Lib.hid (b12.box R.out (by omega))
        replace V := Lib.hid (b12.box V.out (by omega))
        replace S2 := Lib.hid (S2.out.but b12 HI1.out (fun k hk e => by omega))
        replace U := Lib.hid (U.out.trans b12 (fun k hk => .inl hk))
        replace X := Lib.hid X12
        have S3 := Lib.hid s12
        have I3 := Lib.hid (i12.mono (fun k hk => show vb < k by omega))
        have hz12 := b12.size
        clear b12 h12 s12 i12 X12 HNF
        have v3 := V.out.cell 3 rfl
        have fv3 := V.out.frozen 3
        go_upto_region 20 with fail
        have b13 : But (fun k => k = vb) w12 (w12.setCell ⟨vb, 3, none⟩ (.slice a2 n2 c2)) := (But.refl (fun k => k = vb) w12).setCell (p := ⟨vb, 3, none⟩) (.inl rfl) _
        have V13 : Box (w12.setCell ⟨vb, 3, none⟩ (.slice a2 n2 c2)) vb 26 #[.bool false, .bool true, .slice a1 n1 c1, .slice a2 n2 c2, .slice none 0 0] := V.out.set 3 _
        change Code.wp _ _ _ _ (w12.setCell ⟨vb, 3, none⟩ (.slice a2 n2 c2))
        generalize (w12.setCell ⟨vb, 3, none⟩ (.slice a2 n2 c2)) = w13 at *
        replace R := Lib.hid (b13.box R.out (by omega))
        replace V := Lib.hid V13
        replace X := Lib.hid (b13.box X.out (by omega))
        replace S2 := Lib.hid (S2.out.but b13 HI1.out (fun k hk e => by omega))
        replace S3 := Lib.hid (S3.out.but b13 I3.out (fun k hk e => by omega))
        replace U := Lib.hid (U.out.trans b13 (fun k hk => .inr (by omega)))
        clear v3 fv3 b13 V13
        go_wp2_with first | (refine wpList_load_box rfl 26 _ rfl V.out (by rfl) Tryz.underlying26 rfl (by kernel_rfl) ?_) | (refine wpList_store_box (cells := #[.bool false, .bool true, .slice a1 n1 c1, .slice a2 n2 c2, .slice none 0 0]) rfl 26 _ _ rfl R.out (by rfl) (by rfl) rfl (by kernel_rfl) (by simp [Value.oneCell']) ?_; intro u14 X14 st14)
        have b14 : But (fun k => k = w.heap.size) w13 u14 := But.ofStored st14 (st14.below 0 w13 (Nat.zero_le _) (Below.refl _ _))
        exact bodyPost_ret (v := .agg #[.bool false, .bool true, .slice a1 n1 c1, .slice a2 n2 c2, .slice none 0 0]) (box_result rfl _ _ (by rfl) X14 Tryz.underlying26 rfl (by kernel_rfl)) rfl (vn_yes (v := ⟨false, true, a1, n1, c1, a2, n2, c2, none, 0, 0⟩) (by rw [← HE.out]; exact HN.out) (U.out.trans b14 (fun k hk => .inr (by omega)))
          (rd_hint (S2.out.but b14 HI1.out (fun k hk e => by omega)) (S3.out.but b14 I3.out (fun k hk e => by omega)) (HI1.out.mono (fun k hk => by omega)) (I3.out.mono (fun k hk => by omega))) (b14.box X.out (by omega)))
      · obtain ⟨e4, e5, e6⟩ := bNe (a := x) 91 91 rfl (fun e => h91 (by rw [← UInt8.toNat_inj]; exact e))
        obtain ⟨N, hN⟩ : ∃ N, N = nAtom s.data.toList q (m + 1) := ⟨_, rfl⟩
        have HN : Hid (Nt s.data.toList none p lv m N) := Lib.hid (by rw [hN, HQ.out]; exact Nt.atom HQL.out (by rw [HXC.out]; exact HBG.out) (by rw [HXC.out]; exact H40.out) (by rw [HXC.out]; exact h91) (by omega))
        have HNE := Lib.hid hN
        clear h91 e6 hN
        go_wp2_with fail
        refine (plainN_any g s q (m + 1) w3 X.out hs (by omega)).mono ?_
        rintro e w6 ⟨b6, ⟨h6, rfl⟩ | ⟨h6, a1, n1, c1, rfl, s6, i6, X6⟩⟩
        · replace U := Lib.hid (U.out.trans b6 (fun k hk => .inl hk))
          have HE : Hid (N = RV.err (nPlain s.data.toList q).p (nPlain s.data.toList q).e) := Lib.hid (by rw [HNE.out]; unfold nAtom; dsimp only; rw [if_pos h6])
          have H6 := Lib.hid h6
          clear b6 h6
          unfold FaultN
          go_wp2_with fail
          exact ⟨rfl, vn_no (by rw [← HE.out]; exact HN.out) H6.out U.out⟩
        have HE : Hid (N = ⟨.mk false false [] (nPlain s.data.toList q).b [], (nPlain s.data.toList q).p, m + 1, 0⟩) := Lib.hid (by rw [HNE.out]; unfold nAtom; dsimp only; rw [if_neg (by rw [h6]; simp)])
        replace R := Lib.hid (b6.box R.out (by omega))
        replace U := Lib.hid (U.out.trans b6 (fun k hk => .inl hk))
        replace X := Lib.hid X6
        have S1 := Lib.hid s6
        have I1 := Lib.hid (i6.mono (fun k hk => show w.heap.size < k by omega))
        clear b6 h6 s6 i6 X6 HNE
        go_wp2_with (refine wpList_store_box (cells := #[.bool false, .bool false, .slice none 0 0, .slice a1 n1 c1, .slice none 0 0]) rfl 26 _ _ rfl R.out (by rfl) (by rfl) rfl (by kernel_rfl) (by simp [Value.oneCell']) ?_; intro u14 X14 st14)
        have b14 : But (fun k => k = w.heap.size) w6 u14 := But.ofStored st14 (st14.below 0 w6 (Nat.zero_le _) (Below.refl _ _))
        exact bodyPost_ret (v := .agg #[.bool false, .bool false, .slice none 0 0, .slice a1 n1 c1, .slice none 0 0]) (box_result rfl _ _ (by rfl) X14 Tryz.underlying26 rfl (by kernel_rfl)) rfl (vn_yes (v := ⟨false, false, none, 0, 0, a1, n1, c1, none, 0, 0⟩) (by rw [← HE.out]; exact HN.out) (U.out.trans b14 (fun k hk => .inr (by omega)))
          (rd_atomI (S1.out.but b14 I1.out (fun k hk e => by omega)) (I1.out.mono (fun k hk => by omega))) (b14.box X.out (by omega)))

end Go.Proofs.YtkbblhioncecmaaGreatDoor
namespace Go.Proofs.YtkbblhioncecmaaGreatDoor
open Go.RowKit
set_option linter.unusedSimpArgs false
set_option linter.unusedVariables false

/-- a call that may throw -/
theorem wp_callE {P : Program} {o : Oper} {a : Act} {w : World} {K : Act → World → Prop} {Q : Exit → Act → World → Prop} (f : FuncId) (args : Array Value) (hr : (execOp a.eval o).run P w = .ok (.enter f args) w) (R : Ending → World → Prop) (hc : Calls P f args w R)
    (h : ∀ e w', R e w' → (∃ v, e = .returned v ∧ K (a.put o.dst v) w') ∨ (∃ c, e = .panicked c ∧ Q (.panic c) a w')) : o.wp P a w K Q := by
  unfold Oper.wp
  rw [hr]
  refine hc.mono fun e w' he => ?_
  rcases h e w' he with ⟨v, rfl, hv⟩ | ⟨c, rfl, hq⟩
  · exact hv
  · exact hq

theorem grown_after {w w1 w2 : World} {row : Option Nat} (h : w.grownBy w1 row) (hb : Below w1.heap.size w1 w2) : w.grownBy w2 row :=
  ⟨hb.os.trans h.os, hb.tape.trans h.tape, hb.output.trans h.output, Nat.le_trans h.size hb.size, fun k hk hne => (hb.block k (Nat.lt_of_lt_of_le hk h.size)).trans (h.block k hk hne)⟩
theorem src_slice {w w' : World} {v : SV} (h : Src Tryz.prog 5 24 (.slice (some ⟨w.heap.size, 0, none⟩) 1 1) 1 (newsK (fun _ => v) 1) (w.alloc (.cells v.cells 26))) (hn : Box (w.alloc (.cells v.cells 26)) w.heap.size 26 v.cells) (hb : Below (w.alloc (.cells v.cells 26)).heap.size (w.alloc (.cells v.cells 26)) w') :
    Src Tryz.prog 5 24 (.slice (some ⟨w.heap.size, 0, none⟩) 1 1) 1 (newsK (fun _ => v) 1) w' := by
  refine Src.ofSlice _ Tryz.underlying24 _ 1 1 _ (newsK_len _ 1) (fun j u hu => ?_) (newsK_one _ 1)
  rw [Addr.add_mid]
  refine (hn.after hb).cell (0 + j) ?_
  rw [Nat.zero_add]
  simpa [newsK] using hu
set_option maxHeartbeats 32000000 in
set_option maxRecDepth 100000 in
theorem listN_of (g : Nat) (s : ByteArray) (f : Nat) (hs : s.size ≤ 100000) (hd : ValueDoes g s f) : ListDoes g s f := by
  intro p m lv w hX hp hf hm hlv
  have HL : Hid (s.data.toList.length = s.size) := Lib.hid (by simp)
  have HD := Lib.hid hd
  have hgw := hX.lt
  have B0 : Below w.heap.size w (w.alloc (.cells #[.bool false, .bool false, .slice none 0 0, .slice none 0 0, .slice none 0 0] 26)) := (Below.refl _ _).alloc (Nat.le_refl _) _
  have R := Lib.hid (Box.new w 26 #[.bool false, .bool false, .slice none 0 0, .slice none 0 0, .slice none 0 0])
  have X := Lib.hid (hX.after B0)
  have U : Hid (But (fun k => k = g) w (w.alloc (.cells #[.bool false, .bool false, .slice none 0 0, .slice none 0 0, .slice none 0 0] 26))) := Lib.hid (But.ofBelow B0)
  have hz : w.heap.size < ((w.alloc (.cells #[.bool false, .bool false, .slice none 0 0, .slice none 0 0, .slice none 0 0] 26))).heap.size := R.out.lt
  clear hX hd B0
  go_enter Tryz.func35, Tryz.ntmps35
  go_upto_region 1 with fail
  change Code.wp _ _ _ _ (w.alloc (.cells #[.bool false, .bool false, .slice none 0 0, .slice none 0 0, .slice none 0 0] 26))
  generalize (w.alloc (.cells #[.bool false, .bool false, .slice none 0 0, .slice none 0 0, .slice none 0 0] 26)) = u0 at *
  go_upto_region 2 with (refine wpList_store_box (cells := #[.bool true, .bool false, .slice none 0 0, .slice none 0 0, .slice none 0 0]) rfl 26 _ _ rfl (Box.new _ _ _) (by rfl) (by rfl) rfl (by kernel_rfl) (by simp [Value.oneCell']) ?_; intro u1 V1 st1)
  have b1 : Below u0.heap.size u0 u1 := st1.below u0.heap.size u0 (Nat.le_refl _) ((Below.refl _ _).alloc (Nat.le_refl _) _)
  replace R := Lib.hid (R.out.after b1)
  replace X := Lib.hid (X.out.after b1)
  replace U := Lib.hid (U.out.trans (But.ofBelow (S := fun _ => False) b1) (fun _ h => h.elim))
  have V := Lib.hid V1
  have hz1 := V1.lt
  clear b1 st1 V1
  generalize u0.heap.size = vb at *
  simp only [Act.put]
  go_loopw [] (fun wr => ∃ (q cnt al : Nat) (acc : List Sx) (ta : Option Addr) (tc : Nat) (K : Nat → SV), p ≤ q ∧ q ≤ s.size ∧ cnt ≤ 512 ∧ al ≤ q ∧ Hid (al = acc.length) ∧ Hid (∀ r, Nt s.data.toList (some acc) q lv cnt r → Nt s.data.toList (some []) p lv m r) ∧ Box wr g 59 (RdN s q cnt) ∧ Box wr w.heap.size 26 #[.bool false, .bool false, .slice none 0 0, .slice none 0 0, .slice none 0 0] ∧ Box wr vb 26 #[.bool true, .bool false, .slice none 0 0, .slice none 0 0, .slice ta al tc] ∧ OwnG wr (vb + 1) 5 (.slice ta al tc) al (newsK K al) ∧ Hid (∀ i (hi : i < acc.length), RdI (okK (fun _ => False) vb (.slice ta al tc)) wr (K i) acc[i]) ∧ But (fun k => k = g) w wr) (fun wr => s.size + 1 - atN wr g)
  case atStart => exact ⟨p, m, 0, [], none, 0, fun _ => SV.nil, Nat.le_refl _, hp, hm, Nat.zero_le _, Lib.hid rfl, Lib.hid (fun r h => h), X.out, R.out, V.out, OwnG.nil _ _ _, Lib.hid (fun i hi => by cases hi), U.out⟩
  case round =>
    obtain ⟨q, cnt, al, acc, ta, tc, K, hpq, hq, hcnt, hal, HAL, HTO, hX, hR, hV, hO, HKD, hU⟩ := hrel
    clear X R V U
    have HAT := Lib.hid (atN_eq hX)
    have X := Lib.hid hX
    have R := Lib.hid hR
    have V := Lib.hid hV
    have O := Lib.hid hO
    have U := Lib.hid hU
    have hvlt := hV.lt
    clear hX hR hV hO hU
    go_wp2_with fail
    refine (skipN_any g s q cnt wr X.out (by omega) hq).mono ?_
    rintro e w3 ⟨rfl, X3, b3⟩
    obtain ⟨q1, hq1⟩ : ∃ q1, q1 = skipN s.data.toList q := ⟨_, rfl⟩
    have hk1 := skipN_le (l := s.data.toList) (p := q) (by rw [HL.out]; exact hq)
    rw [HL.out, ← hq1] at hk1
    rw [← hq1] at X3
    have HQ1 := Lib.hid hq1
    replace R := Lib.hid (b3.box R.out (by omega))
    replace V := Lib.hid (b3.box V.out (by omega))
    replace O := Lib.hid (O.out.but b3 (fun k h e => by have := (O.out.lt k h).1; omega))
    replace HKD : Hid (∀ i (hi : i < acc.length), RdI (okK (fun _ => False) vb (.slice ta al tc)) w3 (K i) acc[i]) := Lib.hid (fun i hi => (HKD.out i hi).but b3 (fun k hk e => by have := hk.1.resolve_left id; omega))
    replace U := Lib.hid (U.out.trans b3 (fun k hk => .inl hk))
    replace X := Lib.hid X3
    have hz3 := b3.size
    clear X3 b3 hq1
    go_wp2_with fail
    refine (peek_any g s q1 cnt w3 X.out (by omega)).mono ?_
    rintro e w4 ⟨b4, ⟨h4, rfl⟩ | ⟨h4, rfl⟩⟩
    · unfold FaultN
      have HE : Hid (Nt s.data.toList (some []) p lv m (RV.err s.size 2)) := Lib.hid (HTO.out _ (Nt.fail (fun h => by rw [HL.out, ← HQ1.out] at h; omega) (by rw [← HQ1.out, show s.size = s.data.toList.length from HL.out.symm]; exact Nt.short (by rw [HQ1.out, skipN_idem, ← HQ1.out, HL.out]; exact h4)) (by show (2 : Nat) ≠ 0; decide)))
      have HU := Lib.hid (U.out.trans (But.ofBelow (S := fun _ => False) b4) (fun _ h => h.elim))
      clear b4
      go_wp2_with fail
      exact ⟨rfl, vn_no HE.out (by decide) HU.out⟩
    replace R := Lib.hid (R.out.after b4)
    replace V := Lib.hid (V.out.after b4)
    replace O := Lib.hid (O.out.after b4)
    replace HKD : Hid (∀ i (hi : i < acc.length), RdI (okK (fun _ => False) vb (.slice ta al tc)) w4 (K i) acc[i]) := Lib.hid (fun i hi => (HKD.out i hi).after b4)
    replace U := Lib.hid (U.out.trans (But.ofBelow (S := fun _ => False) b4) (fun _ h => h.elim))
    replace X := Lib.hid (X.out.after b4)
    have hz4 := b4.size
    clear b4
    obtain ⟨x, hx⟩ : ∃ x, x = s.data.toList.getD q1 0 := ⟨_, rfl⟩
    rw [← hx]
    have HXC : Hid (s.data.toList.getD (skipN s.data.toList q) 0 = x) := Lib.hid (by rw [← HQ1.out, hx])
    have HQL : Hid (skipN s.data.toList q < s.data.toList.length) := Lib.hid (by rw [← HQ1.out, HL.out]; exact h4)
    clear hx
    have x1 := X.out.cell 1 rfl
    have f1 := X.out.frozen 1
    have hq6 : (q1 : Int) ≤ 1000000 := by omega
    by_cases h41 : x = 41
    · obtain ⟨e1, e2, e3⟩ := bEq (a := x) 41 41 rfl (by rw [h41]; rfl)
      have HE : Hid (Nt s.data.toList (some []) p lv m ⟨.mk true false [] [] acc, q1 + 1, cnt, 0⟩) := Lib.hid (HTO.out _ (by rw [HQ1.out]; exact Nt.close HQL.out (by rw [HXC.out]; exact h41)))
      clear h41 e3 HTO
      go_upto_region 5 with fail
      have X5 : Box (w4.setCell ⟨g, 1, none⟩ (.int .i64 ((q1 : Int) + 1))) g 59 (RdN s (q1 + 1) cnt) := X.out.set 1 _
      have b5 : But (fun k => k = g) w4 (w4.setCell ⟨g, 1, none⟩ (.int .i64 ((q1 : Int) + 1))) := (But.refl (fun k => k = g) w4).setCell (p := ⟨g, 1, none⟩) (.inl rfl) _
      change Code.wp _ _ _ _ (w4.setCell ⟨g, 1, none⟩ (.int .i64 ((q1 : Int) + 1)))
      generalize (w4.setCell ⟨g, 1, none⟩ (.int .i64 ((q1 : Int) + 1))) = w5 at *
      replace R := Lib.hid (b5.box R.out (by omega))
      replace V := Lib.hid (b5.box V.out (by omega))
      replace O := Lib.hid (O.out.but b5 (fun k h e => by have := (O.out.lt k h).1; omega))
      replace HKD : Hid (∀ i (hi : i < acc.length), RdI (okK (fun _ => False) vb (.slice ta al tc)) w5 (K i) acc[i]) := Lib.hid (fun i hi => (HKD.out i hi).but b5 (fun k hk e => by have := hk.1.resolve_left id; omega))
      replace U := Lib.hid (U.out.trans b5 (fun k hk => .inl hk))
      replace X := Lib.hid X5
      have hz5 := b5.size
      clear X5 b5 x1 f1
      go_wp2_with first | (refine wpList_load_box rfl 26 _ rfl V.out (by rfl) Tryz.underlying26 rfl (by kernel_rfl) ?_) | (refine wpList_store_box (cells := #[.bool true, .bool false, .slice none 0 0, .slice none 0 0, .slice ta al tc]) rfl 26 _ _ rfl R.out (by rfl) (by rfl) rfl (by kernel_rfl) (by simp [Value.oneCell']) ?_; intro u9 X9 st9)
      have b9 : But (fun k => k = w.heap.size) w5 u9 := But.ofStored st9 (st9.below 0 w5 (Nat.zero_le _) (Below.refl _ _))
      obtain ⟨a', c', e', hrow, hinb⟩ := O.out.row
      cases e'
      exact bodyPost_ret (v := .agg #[.bool true, .bool false, .slice none 0 0, .slice none 0 0, .slice ta al tc]) (box_result rfl _ _ (by rfl) X9 Tryz.underlying26 rfl (by kernel_rfl)) rfl (vn_yes (v := ⟨true, false, none, 0, 0, none, 0, 0, ta, al, tc⟩) HE.out (U.out.trans b9 (fun k hk => .inr (by omega)))
        (rd_list (hrow.keep (hinb.heap fun k hk => st9.other k (by omega))) (hinb.mono fun k hk => by omega) HAL.out (fun i hi => ((HKD.out i hi).but b9 (fun k hk e => by have := hk.1.resolve_left id; omega)).mono (fun k hk => by have := hk.1.resolve_left id; omega))) (b9.box X.out (by omega)))
    · obtain ⟨e1, e2, e3⟩ := bNe (a := x) 41 41 rfl (fun e => h41 (by rw [← UInt8.toNat_inj]; exact e))
      have H41 := Lib.hid h41
      clear h41 e3 x1 f1
      have hlv' : (lv : Int) ≤ 16 := by omega
      have hwl : IntKind.i64.wrap ((lv : Int) + 1) = (lv : Int) + 1 := by rw [IntKind.wrap_i64]; omega
      go_upto_region 6 with fail
      have hKS : Keeps (fun w' => Box w' vb 26 #[.bool true, .bool false, .slice none 0 0, .slice none 0 0, .slice ta al tc]) := fun w w' h b => h.after b
      refine wp_region_W (w := w4) [9] (fun w' => Box w' vb 26 #[.bool true, .bool false, .slice none 0 0, .slice none 0 0, .slice ta al tc]) rfl V.out.drew ?_
      refine wpW_val 0 hKS rfl (by kernel_rfl) (by kernel_rfl) (by kernel_rfl) (by kernel_rfl) rfl (fun _ _ _ _ h => h) (.pointer (some ⟨vb, 4, none⟩)) (fun w' h => by simp [go_sem]) ?_
      simp only [Act.put, List.setIfInBounds_toArray, List.set_cons_zero, List.set_cons_succ]
      refine wpW_val 1 hKS rfl (by kernel_rfl) (by kernel_rfl) (by kernel_rfl) (by kernel_rfl) rfl (fun _ _ _ _ h => h) (.slice ta al tc) (fun w' h => by simp [go_sem, h.cell 4 rfl]) ?_
      simp only [Act.put, List.setIfInBounds_toArray, List.set_cons_zero, List.set_cons_succ]
      refine wpW_val 2 hKS rfl (by kernel_rfl) (by kernel_rfl) (by kernel_rfl) (by kernel_rfl) rfl (fun _ _ _ _ h => h) (.pointer (some ⟨g, 0, none⟩)) (fun w' h => by simp [go_sem]) ?_
      simp only [Act.put, List.setIfInBounds_toArray, List.set_cons_zero, List.set_cons_succ]
      refine wpW_val 3 hKS rfl (by kernel_rfl) (by kernel_rfl) (by kernel_rfl) (by kernel_rfl) rfl (fun _ _ _ _ h => h) (.int .i64 lv) (fun w' h => by simp [go_sem]) ?_
      simp only [Act.put, List.setIfInBounds_toArray, List.set_cons_zero, List.set_cons_succ]
      refine wpW_val 4 hKS rfl (by kernel_rfl) (by kernel_rfl) (by kernel_rfl) (by kernel_rfl) rfl (fun _ _ _ _ h => h) (.int .i64 ((lv : Int) + 1)) (fun w' h => by simp [go_sem, hwl]) ?_
      simp only [Act.put, List.setIfInBounds_toArray, List.set_cons_zero, List.set_cons_succ]
      refine wpW_one 5 rfl (by kernel_rfl) (by kernel_rfl) rfl ?_
      intro w5 b5 s5
      have b5' : Below w4.heap.size w4 w5 := (Below.refl _ w4).drew.trans b5
      have hz5 := b5'.size
      refine wp_callE 17 #[.pointer (some ⟨g, 0, none⟩), .int .i64 ((lv : Int) + 1)] (by simp [go_sem]) _ (HD.out q1 cnt (lv + 1) w5 (X.out.after b5') (by omega) (by omega) hcnt (by omega)) ?_
      rintro e w6 ⟨b6, r, hr, ⟨h6, rfl⟩ | ⟨h6, v, rfl, rd, X6⟩⟩
      · refine .inr ⟨_, rfl, ?_⟩
        have HE : Hid (Nt s.data.toList (some []) p lv m r) := Lib.hid (HTO.out _ (Nt.fail (fun _ => by rw [HXC.out]; exact H41.out) (by rw [← HQ1.out]; exact hr) h6))
        have HU := Lib.hid ((U.out.trans (But.ofBelow (S := fun _ => False) b5') (fun _ h => h.elim)).trans b6 (fun k hk => .inl hk))
        have H6 := Lib.hid h6
        clear hKS b5 b5' s5 b6 hr h6
        go_wp2_with fail
        exact ⟨rfl, HU.out, r, HE.out, .inl ⟨H6.out, rfl⟩⟩
      · refine .inl ⟨_, rfl, b6.box s5 (by omega), ?_⟩
        simp only [Act.put, List.setIfInBounds_toArray, List.set_cons_zero, List.set_cons_succ]
        have hpl := Nt_place hr h6 (by rw [HL.out]; omega)
        rw [HL.out] at hpl
        have HMO : Hid (∀ r2, Nt s.data.toList (some (acc ++ [r.v])) r.p lv r.n r2 → Nt s.data.toList (some []) p lv m r2) := Lib.hid (fun r2 h => HTO.out r2 (Nt.more HQL.out (by rw [HXC.out]; exact H41.out) (by rw [← HQ1.out]; exact hr) h6 h))
        obtain ⟨rv, rp, rn, re⟩ := r
        dsimp only at rd X6 hpl HMO h6
        obtain ⟨vl, vh, a1, n1, c1, a2, n2, c2, a3, n3, c3⟩ := v
        refine wpW_one 6 rfl (by kernel_rfl) (by kernel_rfl) rfl ?_
        intro w7 b7 s7
        refine wp_of_run (.slice (some ⟨w7.heap.size, 0, none⟩) 1 1) (w7.alloc (.cells (SV.mk vl vh a1 n1 c1 a2 n2 c2 a3 n3 c3).cells 26)) (by simp [go_sem, SV.val, SV.cells]) ?_
        have b8 : Below w7.heap.size w7 (w7.alloc (.cells (SV.mk vl vh a1 n1 c1 a2 n2 c2 a3 n3 c3).cells 26)) := (Below.refl _ _).alloc (Nat.le_refl _) _
        have S8 : Src Tryz.prog 5 24 (.slice (some ⟨w7.heap.size, 0, none⟩) 1 1) 1 (newsK (fun _ => SV.mk vl vh a1 n1 c1 a2 n2 c2 a3 n3 c3) 1) (w7.alloc (.cells (SV.mk vl vh a1 n1 c1 a2 n2 c2 a3 n3 c3).cells 26)) := src_one w7 _
        have hz6 := b6.size
        have hz7 := b7.size
        have N8 := Box.new w7 26 (SV.mk vl vh a1 n1 c1 a2 n2 c2 a3 n3 c3).cells
        refine ⟨hKS _ _ s7 b8, ?_⟩
        simp only [Act.put, List.setIfInBounds_toArray, List.set_cons_zero, List.set_cons_succ]
        refine wpW_one 7 rfl (by kernel_rfl) (by kernel_rfl) rfl ?_
        intro w9 b9 s9
        have hz8 : w7.heap.size < (w7.alloc (.cells (SV.mk vl vh a1 n1 c1 a2 n2 c2 a3 n3 c3).cells 26)).heap.size := N8.lt
        have hz9 := b9.size
        have O5 := O.out.after b5'
        have hO5 : ∀ k, Value.ownBlock (.slice ta al tc) = some k → vb < k ∧ k < w5.heap.size := fun k h => ⟨(O5.lt k h).1, (O5.lt k h).2⟩
        have O6 := O5.but b6 (fun k h e => by have := hO5 k h; omega)
        have B69 : Below w6.heap.size w6 w9 := (b7.trans (b8.mono b7.size)).trans (b9.mono (Nat.le_trans b7.size b8.size))
        have O9 := O6.after B69
        have U9 := Lib.hid (((U.out.trans (But.ofBelow (S := fun _ => False) b5') (fun _ h => h.elim)).trans b6 (fun k hk => .inl hk)).trans (But.ofBelow (S := fun _ => False) B69) (fun _ h => h.elim))
        have X9 := Lib.hid (X6.after B69)
        have R9 := Lib.hid ((b6.box (R.out.after b5') (by omega)).after B69)
        have K9 : ∀ i (hi : i < acc.length), RdI (okK (fun _ => False) vb (.slice ta al tc)) w9 (K i) acc[i] := fun i hi => (((HKD.out i hi).after b5').but b6 (fun k hk e => by have := hk.1.resolve_left id; omega)).after B69
        have D9 : RdI (fun k => (False ∨ w5.heap.size ≤ k) ∧ k < w9.heap.size) w9 ⟨vl, vh, a1, n1, c1, a2, n2, c2, a3, n3, c3⟩ rv := ((rd.after B69).mono (fun k hk => (.inr hk : False ∨ w5.heap.size ≤ k))).there
        refine wp_append_K (B := vb + 1) _ _ rfl rfl O9 rfl (src_slice S8 N8 b9) (by omega) (by omega) ?_
        intro v10 w10 ho10 hg10 hw10
        rw [newsK_snoc] at ho10
        obtain ⟨ta', tc', rfl, _⟩ := ho10.row
        refine ⟨s9.grown hg10 (fun k hk => by have := (O9.lt k hk).1; omega), ?_⟩
        simp only [Act.put, List.setIfInBounds_toArray, List.set_cons_zero, List.set_cons_succ]
        refine wpW_val 8 hKS rfl (by kernel_rfl) (by kernel_rfl) (by kernel_rfl) (by kernel_rfl) rfl (fun _ _ _ _ h => h) (.pointer (some ⟨vb, 4, none⟩)) (fun w' h => by simp [go_sem]) ?_
        simp only [Act.put, List.setIfInBounds_toArray, List.set_cons_zero, List.set_cons_succ]
        refine wpW_write 9 rfl (by kernel_rfl) (by kernel_rfl) rfl ?_
        intro w11 b11 s11
        have hb10 : ∀ k, (Value.ownBlock (.slice ta al tc)) = some k → vb < k := fun k h => (hO5 k h).1
        have U10 := U9.out.trans (But.ofGrown hg10 (S := fun k => vb < k) hb10) (fun k hk => .inr (by omega))
        have X10 := X9.out.grown hg10 (fun k hk => by have := hb10 k hk; omega)
        have R10 := R9.out.grown hg10 (fun k hk => by have := hb10 k hk; omega)
        have KM := kids_more (ok := fun _ => False) (g := vb) (B := w5.heap.size) (G := w9.heap.size) (al := al) (own := .slice ta al tc) (v' := .slice ta' (al + 1) tc') (u := w9) (w2 := w10) (K := K) (acc := acc) (v := ⟨vl, vh, a1, n1, c1, a2, n2, c2, a3, n3, c3⟩) (rv := rv) HAL.out K9 D9 (fun k h => h.elim) (by omega) hO5 hg10 hw10 (.slice ta' (al + 1) tc')
        refine wp_store_slice 24 _ _ rfl rfl rfl (s11.cell 4 rfl) (s11.frozen 4) (fun w => by simp [go_sem]) ?_
        simp only [Act.put, List.setIfInBounds_toArray, List.set_cons_zero, List.set_cons_succ]
        refine wpU_done (by kernel_rfl) ?_
        intro w12 b12 _
        have hz11 := b11.size
        have b1112 : Below w10.heap.size w10 w11 := b11
        have KM' : Hid (∀ i (hi : i < (acc ++ [rv]).length), RdI (okK (fun _ => False) vb (.slice ta' (al + 1) tc')) w12 (if i = al then ⟨vl, vh, a1, n1, c1, a2, n2, c2, a3, n3, c3⟩ else K i) (acc ++ [rv])[i]) := Lib.hid (by
          have := kids_more (ok := fun _ => False) (g := vb) (B := w5.heap.size) (G := w9.heap.size) (al := al) (own := .slice ta al tc) (v' := .slice ta' (al + 1) tc') (u := w9) (w2 := w11) (K := K) (acc := acc) (v := ⟨vl, vh, a1, n1, c1, a2, n2, c2, a3, n3, c3⟩) (rv := rv) HAL.out K9 D9 (fun k h => h.elim) (by omega) hO5 (grown_after hg10 b11) hw10 (.slice ta' (al + 1) tc')
          exact fun i hi => (this i hi).after b12)
        have e12 : But (fun k => k = vb) w11 (w11.setCell ⟨vb, 4, none⟩ (.slice ta' (al + 1) tc')) := (But.refl (fun k => k = vb) w11).setCell (p := ⟨vb, 4, none⟩) (.inl rfl) _
        have V12 := Lib.hid ((s11.set 4 (.slice ta' (al + 1) tc')).after b12)
        have X12 := Lib.hid ((e12.box (X10.after b11) (by omega)).after b12)
        have R12 := Lib.hid ((e12.box (R10.after b11) (by omega)).after b12)
        have O12 := Lib.hid (((ho10.after b11).but e12 (fun k h e => by have := (ho10.lt k h).1; omega)).after b12)
        have U12 := Lib.hid (((U10.trans (But.ofBelow (S := fun _ => False) b11) (fun _ h => h.elim)).trans e12 (fun k hk => .inr (by omega))).trans (But.ofBelow (S := fun _ => False) b12) (fun _ h => h.elim))
        clear hKS b5 b5' s5 b6 rd X6 hr b7 s7 b8 S8 N8 b9 s9 O5 hO5 O6 B69 O9 U9 X9 R9 K9 D9 ho10 hg10 hw10 b11 s11 hb10 U10 X10 R10 KM b12 b1112 e12 O R V X U HKD HTO h6
        have e4' := atN_eq X12.out
        go_wp2_with fail
        go_roundw
        case rel => exact ⟨rp, rn, al + 1, acc ++ [rv], ta', tc', fun i => if i = al then ⟨vl, vh, a1, n1, c1, a2, n2, c2, a3, n3, c3⟩ else K i, by omega, by omega, hpl.2.2.1 hcnt, by omega, Lib.hid (by rw [HAL.out]; simp), HMO, X12.out, R12.out, V12.out, O12.out, KM', U12.out⟩
        case measure => rw [HAT.out, e4']; omega

theorem valueN_all (g : Nat) (s : ByteArray) (hs : s.size ≤ 100000) : ∀ f, ValueDoes g s f ∧ ListDoes g s f
  | 0 => have hv : ValueDoes g s 0 := fun p m lv w hX hp hf hm hlv => absurd hp (by omega)
    ⟨hv, listN_of g s 0 hs hv⟩
  | f + 1 => have hv : ValueDoes g s (f + 1) := fun p m lv w hX hp hf hm hlv => valueN_of g s f hs (valueN_all g s hs f).2 p m lv w hX hp hf hm hlv
    ⟨hv, listN_of g s (f + 1) hs hv⟩
theorem valueN_any (g : Nat) (s : ByteArray) (p m lv : Nat) (w : World) (hX : Box w g 59 (RdN s p m)) (hs : s.size ≤ 100000) (hp : p ≤ s.size) (hm : m ≤ 512) (hlv : lv ≤ 17) :
    Calls Tryz.prog 17 #[.pointer (some ⟨g, 0, none⟩), .int .i64 lv] w (ValN (Nt s.data.toList none p lv m) g s w) := (valueN_all g s hs (s.size + 1)).1 p m lv w hX hp (by omega) hm hlv

end Go.Proofs.YtkbblhioncecmaaGreatDoor
namespace Go.Proofs.YtkbblhioncecmaaGreatDoor
open Go.RowKit
set_option linter.unusedSimpArgs false
set_option linter.unusedVariables false

mutual
/-- no wider or longer than what 16384 bytes may tell -/
def Sx.broad : Sx → Nat → Bool
  | .mk _ _ hi da ks, at_ => decide (60 < at_) || decide (700 < ks.length) || decide (100000 < hi.length) || decide (100000 < da.length) || Sx.broadL ks (at_ + 1)
def Sx.broadL : List Sx → Nat → Bool
  | [], _ => false
  | k :: r, at_ => k.broad at_ || Sx.broadL r at_
end
theorem Sx.broadL_yes {ks : List Sx} {k : Sx} {m : Nat} (h : k ∈ ks) (hk : k.broad m = true) : Sx.broadL ks m = true := by
  induction ks with
  | nil => cases h
  | cons a r ih => rcases List.mem_cons.1 h with rfl | h
                   · simp [Sx.broadL, hk]
                   · simp [Sx.broadL, ih h]
theorem broad_def (l h : Bool) (hi da : List UInt8) (ks : List Sx) (m : Nat) : (Sx.mk l h hi da ks).broad m = (decide (60 < m) || decide (700 < ks.length) || decide (100000 < hi.length) || decide (100000 < da.length) || Sx.broadL ks (m + 1)) := by simp only [Sx.broad]
theorem broad_no {s : Sx} : ∀ {m : Nat}, s.broad m = false → m ≤ 60 ∧ s.ks.length ≤ 700 ∧ s.hi.length ≤ 100000 ∧ s.da.length ≤ 100000 ∧ ∀ k ∈ s.ks, k.broad (m + 1) = false := by
  intro m h
  obtain ⟨l, hh, hi, da, ks⟩ := s
  rw [broad_def] at h
  simp only [Bool.or_eq_false_iff, decide_eq_false_iff_not] at h
  obtain ⟨⟨⟨⟨h1, h2⟩, h3⟩, h4⟩, h5⟩ := h
  refine ⟨by omega, by simp only [Sx.ks]; omega, by simp only [Sx.hi]; omega, by simp only [Sx.da]; omega, fun k hk => ?_⟩
  by_cases e : k.broad (m + 1) = true
  · rw [Sx.broadL_yes (ks := ks) hk e] at h5; cases h5
  · simpa using e
theorem formL_leB {ks : List Sx} (h : ∀ k ∈ ks, k.form.length ≤ 210000 * k.nodes) : (Sx.formL ks).length ≤ 210000 * Sx.nodesL ks := by
  induction ks with
  | nil => simp [Sx.formL]
  | cons a r ih => have h1 := h a List.mem_cons_self; have h2 := ih (fun k hk => h k (List.mem_cons_of_mem _ hk)); simp only [Sx.formL, Sx.nodesL, List.length_append]; omega
theorem form_broad (s : Sx) : ∀ m, s.broad m = false → s.form.length ≤ 210000 * s.nodes := by
  induction s using Sx.ind with
  | h l hh hi da ks ih =>
    intro m h
    obtain ⟨h1, _, h3, h4, h2⟩ := broad_no h
    simp only [Sx.hi, Sx.da] at h3 h4
    have := formL_leB fun k hk => ih k hk (m + 1) (h2 k hk)
    have e1 := textL_len hi (by omega)
    have e2 := textL_len da (by omega)
    rw [form_def]
    simp only [Sx.nodes]
    cases l <;> cases hh <;> simp <;> omega
set_option maxHeartbeats 8000000 in
set_option maxRecDepth 100000 in
theorem rightB_any (s : Sx) : ∀ (v : SV) (g N S d m : Nat) (w : World), Box w g 74 #[.int .i64 N, .int .i64 S] → RdI (fun k => k ≠ g) w v s → s.broad m = false → TabX (fun k => k = g) w → N ≤ 512 → S ≤ 300000 * N → d ≤ 17 →
    Calls Tryz.prog 37 #[.pointer (some ⟨g, 0, none⟩), v.val, .int .i64 d] w (RightP g (s.okR d N) (N + s.nodes) (S + s.form.length) w) := by
  induction s using Sx.ind with
  | h l hh hi da ks ih =>
  intro v g N S d m w hg hr hwd htx hN hS hd
  have HRR := Lib.hid hr
  obtain ⟨hvl, hvh, hs1, hs2, hn, hnc, hcm, K, hrow, hk⟩ := hr.parts
  obtain ⟨vl, vh, a1, n1, k1, a2, n2, k2, a3, n3, k3⟩ := v
  dsimp only at hn hnc hcm hrow hk hvl hvh hs1 hs2
  obtain rfl : vl = l := hvl
  obtain rfl : vh = hh := hvh
  replace hn : n3 = ks.length := hn
  replace hs1 : Sl w a1 n1 k1 hi := hs1
  replace hs2 : Sl w a2 n2 k2 da := hs2
  replace hk : ∀ i (hi : i < ks.length), RdI (fun k => k ≠ g) w (K i) ks[i] := hk
  obtain ⟨l1, hl1⟩ : ∃ l1, l1 = hi := ⟨_, rfl⟩
  have hn1 := hs1.1
  have hn2 := hs2.1
  have hm1 := hs1.2.1
  have hm2 := hs2.2.1
  have hx1 := hs1.2.2.1
  have hx2 := hs2.2.2.1
  have IH := Lib.hid ih
  have HK := Lib.hid hk
  have HR := Lib.hid hrow
  have HS1 := Lib.hid hs1
  have HS2 := Lib.hid hs2
  have HN1 := Lib.hid hn1
  have HN2 := Lib.hid hn2
  clear ih hk hrow hr hs1 hs2 hn1 hn2 hl1
  subst hn
  obtain ⟨hm60, _, hw1, hw2, hwk⟩ := broad_no hwd
  replace hw1 : hi.length ≤ 100000 := hw1
  replace hw2 : da.length ≤ 100000 := hw2
  have hn1 : n1 ≤ 100000 := by have := HN1.out; omega
  have hn2 : n2 ≤ 100000 := by have := HN2.out; omega
  have HWK := Lib.hid hwk
  have HTX := Lib.hid htx
  have hfw := form_broad _ m hwd
  have HFW := Lib.hid hfw
  have hgl := hg.lt
  unfold maxLen at hcm
  clear hwk hwd htx hfw hx1 hx2 hm1 hm2 hm60
  have hgne : g ≠ w.heap.size := by omega
  by_cases hmany : N = 512
  case pos =>
    have hmany' : (512 : Int) < (N : Int) + 1 := by omega
    replace hmany := Nat.le_of_eq hmany.symm
    have X0 := Box.new w 26 #[.bool vl, .bool vh, .slice a1 n1 k1, .slice a2 n2 k2, .slice a3 ks.length k3]
    have G0 := hg.alloc (.cells #[.bool vl, .bool vh, .slice a1 n1 k1, .slice a2 n2 k2, .slice a3 ks.length k3] 26)
    have B0 : But (fun k => k = g) w (w.alloc (.cells #[.bool vl, .bool vh, .slice a1 n1 k1, .slice a2 n2 k2, .slice a3 ks.length k3] 26)) := (But.refl (fun k => k = g) w).alloc _
    show Calls _ _ #[.pointer (some ⟨g, 0, none⟩), .agg #[.bool vl, .bool vh, .slice a1 n1 k1, .slice a2 n2 k2, .slice a3 ks.length k3], .int .i64 d] _ _
    go_enter Tryz.func37, Tryz.ntmps37
    go_upto_region 1 with fail
    change Code.wp _ _ _ _ (w.alloc (.cells #[.bool vl, .bool vh, .slice a1 n1 k1, .slice a2 n2 k2, .slice a3 ks.length k3] 26))
    generalize (w.alloc (.cells #[.bool vl, .bool vh, .slice a1 n1 k1, .slice a2 n2 k2, .slice a3 ks.length k3] 26)) = v0 at *
    have c0 := G0.cell 0 rfl
    have f0 := G0.frozen 0
    have e1 : IntKind.i64.wrap ((N : Int) + 1) = (N : Int) + 1 := IntWalk.i64_in _ ⟨by omega, by omega⟩
    go_upto_region 2 with fail
    have X1 := X0.far ⟨g, 0, none⟩ (.int .i64 ((N : Int) + 1)) (Ne.symm hgne)
    have G1 := G0.set 0 (.int .i64 ((N : Int) + 1))
    have B1 := B0.setCell (p := ⟨g, 0, none⟩) (.inl rfl) (.int .i64 ((N : Int) + 1))
    change Code.wp _ _ _ _ (v0.setCell ⟨g, 0, none⟩ (.int .i64 ((N : Int) + 1)))
    clear X0 G0 B0 c0 f0 e1 hg
    generalize (v0.setCell ⟨g, 0, none⟩ (.int .i64 ((N : Int) + 1))) = v1 at *
    replace G1 : Box v1 g 74 #[.int .i64 ((N : Int) + 1), .int .i64 S] := G1
    have c0 := G1.cell 0 rfl
    go_wp2_with fail
    go_ret
    exact ⟨N + 1, S, by rw [okR_many (by omega)]; rfl, by have := G1; rwa [show ((N + 1 : Nat) : Int) = (N : Int) + 1 by omega], (fun h => by rw [okR_many (by omega)] at h; cases h), B1⟩
  replace hmany : N < 512 := by omega
  have hmany' : ¬ (512 : Int) < (N : Int) + 1 := by omega
  cases vl with
  | false =>
    cases vh with
    | false =>
      have X0 := Box.new w 26 #[.bool false, .bool false, .slice a1 n1 k1, .slice a2 n2 k2, .slice a3 ks.length k3]
      have G0 := hg.alloc (.cells #[.bool false, .bool false, .slice a1 n1 k1, .slice a2 n2 k2, .slice a3 ks.length k3] 26)
      have B0 : But (fun k => k = g) w (w.alloc (.cells #[.bool false, .bool false, .slice a1 n1 k1, .slice a2 n2 k2, .slice a3 ks.length k3] 26)) := (But.refl (fun k => k = g) w).alloc _
      show Calls _ _ #[.pointer (some ⟨g, 0, none⟩), .agg #[.bool false, .bool false, .slice a1 n1 k1, .slice a2 n2 k2, .slice a3 ks.length k3], .int .i64 d] _ _
      go_enter Tryz.func37, Tryz.ntmps37
      go_upto_region 1 with fail
      change Code.wp _ _ _ _ (w.alloc (.cells #[.bool false, .bool false, .slice a1 n1 k1, .slice a2 n2 k2, .slice a3 ks.length k3] 26))
      generalize (w.alloc (.cells #[.bool false, .bool false, .slice a1 n1 k1, .slice a2 n2 k2, .slice a3 ks.length k3] 26)) = v0 at *
      have c0 := G0.cell 0 rfl
      have f0 := G0.frozen 0
      have e1 : IntKind.i64.wrap ((N : Int) + 1) = (N : Int) + 1 := IntWalk.i64_in _ ⟨by omega, by omega⟩
      go_upto_region 2 with fail
      have X1 := X0.far ⟨g, 0, none⟩ (.int .i64 ((N : Int) + 1)) (Ne.symm hgne)
      have G1 := G0.set 0 (.int .i64 ((N : Int) + 1))
      have B1 := B0.setCell (p := ⟨g, 0, none⟩) (.inl rfl) (.int .i64 ((N : Int) + 1))
      change Code.wp _ _ _ _ (v0.setCell ⟨g, 0, none⟩ (.int .i64 ((N : Int) + 1)))
      clear X0 G0 B0 c0 f0 e1 hg
      generalize (v0.setCell ⟨g, 0, none⟩ (.int .i64 ((N : Int) + 1))) = v1 at *
      replace G1 : Box v1 g 74 #[.int .i64 ((N : Int) + 1), .int .i64 S] := G1
      have X1' := X1
      have c0 := G1.cell 0 rfl
      have l0 := X1.cell 0 rfl
      have l1 := X1.cell 1 rfl
      go_upto_region 8 with fail
      clear c0 l0 l1 X1'
      replace G1 : Box v1 g 74 #[.int .i64 ((N + 1 : Nat) : Int), .int .i64 S] := by rw [show ((N + 1 : Nat) : Int) = (N : Int) + 1 by omega]; exact G1
      have cc := X1.cell 3 rfl
      go_wp2_with fail
      refine (cbytes_any g (N + 1) (S) _ n2 _ da v1 G1 (by omega) (by omega) HN2.out (HTX.out _ B1)).mono ?_
      rintro e v2 ⟨rfl, G2, b2⟩
      have X2 := b2.box X1 (by omega)
      have B2 := B1.trans b2 (fun k hk => .inl hk)
      clear cc X1 G1 b2
      have c4 := X2.cell 4 rfl
      have c1 := X2.cell 1 rfl
      have c2 := X2.cell 2 rfl
      by_cases hk0 : ks.length = 0
      case neg =>
        have hk0' : ((ks.length : Int) == 0) = false := beq_eq_false_iff_ne.2 (by omega)
        have HU : Hid ((Sx.mk false false hi da ks).okR d N = false) := Lib.hid (okR_unclean (by rw [clean_def, headOk5 _ _ _ (by omega)]; rfl))
        go_wp2_with fail
        go_ret
        exact ⟨N + 1, S + (textL da).length, by rw [HU.out]; rfl, G2, (fun h => by rw [HU.out] at h; cases h), B2⟩
      have hks : ks = [] := List.eq_nil_of_length_eq_zero hk0
      subst hks
      by_cases h1 : n1 = 0
      · subst h1
        have HU : Hid ((Sx.mk false false hi da []).okR d N = true) := Lib.hid (okR_atom hmany hd (headOk8 _ (by have := HN1.out; omega) rfl))
        go_wp2_with fail
        go_ret
        exact ⟨N + 1, S + (textL da).length, by rw [HU.out]; rfl, G2, (fun _ => ⟨by simp [Sx.nodes, Sx.nodesL], by rw [form_def]; simp; try omega⟩), B2⟩
      · have h1' : ((n1 : Int) == 0) = false := beq_eq_false_iff_ne.2 (by omega)
        have HU : Hid ((Sx.mk false false hi da []).okR d N = false) := Lib.hid (okR_unclean (by rw [clean_def, headOk7 _ _ (by have := HN1.out; omega)]; rfl))
        go_wp2_with fail
        go_ret
        exact ⟨N + 1, S + (textL da).length, by rw [HU.out]; rfl, G2, (fun h => by rw [HU.out] at h; cases h), B2⟩
    | true =>
      have X0 := Box.new w 26 #[.bool false, .bool true, .slice a1 n1 k1, .slice a2 n2 k2, .slice a3 ks.length k3]
      have G0 := hg.alloc (.cells #[.bool false, .bool true, .slice a1 n1 k1, .slice a2 n2 k2, .slice a3 ks.length k3] 26)
      have B0 : But (fun k => k = g) w (w.alloc (.cells #[.bool false, .bool true, .slice a1 n1 k1, .slice a2 n2 k2, .slice a3 ks.length k3] 26)) := (But.refl (fun k => k = g) w).alloc _
      show Calls _ _ #[.pointer (some ⟨g, 0, none⟩), .agg #[.bool false, .bool true, .slice a1 n1 k1, .slice a2 n2 k2, .slice a3 ks.length k3], .int .i64 d] _ _
      go_enter Tryz.func37, Tryz.ntmps37
      go_upto_region 1 with fail
      change Code.wp _ _ _ _ (w.alloc (.cells #[.bool false, .bool true, .slice a1 n1 k1, .slice a2 n2 k2, .slice a3 ks.length k3] 26))
      generalize (w.alloc (.cells #[.bool false, .bool true, .slice a1 n1 k1, .slice a2 n2 k2, .slice a3 ks.length k3] 26)) = v0 at *
      have c0 := G0.cell 0 rfl
      have f0 := G0.frozen 0
      have e1 : IntKind.i64.wrap ((N : Int) + 1) = (N : Int) + 1 := IntWalk.i64_in _ ⟨by omega, by omega⟩
      go_upto_region 2 with fail
      have X1 := X0.far ⟨g, 0, none⟩ (.int .i64 ((N : Int) + 1)) (Ne.symm hgne)
      have G1 := G0.set 0 (.int .i64 ((N : Int) + 1))
      have B1 := B0.setCell (p := ⟨g, 0, none⟩) (.inl rfl) (.int .i64 ((N : Int) + 1))
      change Code.wp _ _ _ _ (v0.setCell ⟨g, 0, none⟩ (.int .i64 ((N : Int) + 1)))
      clear X0 G0 B0 c0 f0 e1 hg
      generalize (v0.setCell ⟨g, 0, none⟩ (.int .i64 ((N : Int) + 1))) = v1 at *
      replace G1 : Box v1 g 74 #[.int .i64 ((N : Int) + 1), .int .i64 S] := G1
      have c0 := G1.cell 0 rfl
      have c1 := G1.cell 1 rfl
      have f1 := G1.frozen 1
      have l0 := X1.cell 0 rfl
      have l1 := X1.cell 1 rfl
      have e2 : IntKind.i64.wrap ((S : Int) + 2) = (S : Int) + 2 := IntWalk.i64_in _ ⟨by omega, by omega⟩
      go_upto_region 7 with fail
      have X2 := X1.far ⟨g, 1, none⟩ (.int .i64 ((S : Int) + 2)) (Ne.symm hgne)
      have G2 := G1.set 1 (.int .i64 ((S : Int) + 2))
      have B2 := B1.setCell (p := ⟨g, 1, none⟩) (.inl rfl) (.int .i64 ((S : Int) + 2))
      change Code.wp _ _ _ _ (v1.setCell ⟨g, 1, none⟩ (.int .i64 ((S : Int) + 2)))
      clear X1 G1 B1 c0 c1 f1 l0 l1 e2
      generalize (v1.setCell ⟨g, 1, none⟩ (.int .i64 ((S : Int) + 2))) = v2 at *
      replace G2 : Box v2 g 74 #[.int .i64 ((N + 1 : Nat) : Int), .int .i64 ((S + 2 : Nat) : Int)] := by rw [show ((N + 1 : Nat) : Int) = (N : Int) + 1 by omega, show ((S + 2 : Nat) : Int) = (S : Int) + 2 by omega]; exact G2
      have ht1 := textL_len hi (by omega)
      have cc := X2.cell 2 rfl
      go_wp2_with fail
      refine (cbytes_any g (N + 1) (S + 2) _ n1 _ hi v2 G2 (by omega) (by omega) HN1.out (HTX.out _ B2)).mono ?_
      rintro e v3 ⟨rfl, G3, b3⟩
      have X3 := b3.box X2 (by omega)
      have B3 := B2.trans b3 (fun k hk => .inl hk)
      clear cc X2 G2 b3
      have cc := X3.cell 3 rfl
      go_wp2_with fail
      refine (cbytes_any g (N + 1) (S + 2 + (textL hi).length) _ n2 _ da v3 G3 (by omega) (by omega) HN2.out (HTX.out _ B3)).mono ?_
      rintro e v4 ⟨rfl, G4, b4⟩
      have X4 := b4.box X3 (by omega)
      have B4 := B3.trans b4 (fun k hk => .inl hk)
      clear cc X3 G3 b4
      have c4 := X4.cell 4 rfl
      have c1 := X4.cell 1 rfl
      have c2 := X4.cell 2 rfl
      by_cases hk0 : ks.length = 0
      case neg =>
        have hk0' : ((ks.length : Int) == 0) = false := beq_eq_false_iff_ne.2 (by omega)
        have HU : Hid ((Sx.mk false true hi da ks).okR d N = false) := Lib.hid (okR_unclean (by rw [clean_def, headOk5 _ _ _ (by omega)]; rfl))
        go_wp2_with fail
        go_ret
        exact ⟨N + 1, S + 2 + (textL hi).length + (textL da).length, by rw [HU.out]; rfl, G4, (fun h => by rw [HU.out] at h; cases h), B4⟩
      have hks : ks = [] := List.eq_nil_of_length_eq_zero hk0
      subst hks
      have HU : Hid ((Sx.mk false true hi da []).okR d N = true) := Lib.hid (okR_atom hmany hd (headOk6 _ _ rfl))
      go_wp2_with fail
      go_ret
      exact ⟨N + 1, S + 2 + (textL hi).length + (textL da).length, by rw [HU.out]; rfl, G4, (fun _ => ⟨by simp [Sx.nodes, Sx.nodesL], by rw [form_def]; simp; try omega⟩), B4⟩
  | true =>
    by_cases hd16 : 16 < d
    case pos =>
      have hd16' : (16 : Int) < d := by omega
      have HU : Hid ((Sx.mk true vh hi da ks).okR d N = false) := Lib.hid (okR_deep hd16)
      have X0 := Box.new w 26 #[.bool true, .bool vh, .slice a1 n1 k1, .slice a2 n2 k2, .slice a3 ks.length k3]
      have G0 := hg.alloc (.cells #[.bool true, .bool vh, .slice a1 n1 k1, .slice a2 n2 k2, .slice a3 ks.length k3] 26)
      have B0 : But (fun k => k = g) w (w.alloc (.cells #[.bool true, .bool vh, .slice a1 n1 k1, .slice a2 n2 k2, .slice a3 ks.length k3] 26)) := (But.refl (fun k => k = g) w).alloc _
      show Calls _ _ #[.pointer (some ⟨g, 0, none⟩), .agg #[.bool true, .bool vh, .slice a1 n1 k1, .slice a2 n2 k2, .slice a3 ks.length k3], .int .i64 d] _ _
      go_enter Tryz.func37, Tryz.ntmps37
      go_upto_region 1 with fail
      change Code.wp _ _ _ _ (w.alloc (.cells #[.bool true, .bool vh, .slice a1 n1 k1, .slice a2 n2 k2, .slice a3 ks.length k3] 26))
      generalize (w.alloc (.cells #[.bool true, .bool vh, .slice a1 n1 k1, .slice a2 n2 k2, .slice a3 ks.length k3] 26)) = v0 at *
      have c0 := G0.cell 0 rfl
      have f0 := G0.frozen 0
      have e1 : IntKind.i64.wrap ((N : Int) + 1) = (N : Int) + 1 := IntWalk.i64_in _ ⟨by omega, by omega⟩
      go_upto_region 2 with fail
      have X1 := X0.far ⟨g, 0, none⟩ (.int .i64 ((N : Int) + 1)) (Ne.symm hgne)
      have G1 := G0.set 0 (.int .i64 ((N : Int) + 1))
      have B1 := B0.setCell (p := ⟨g, 0, none⟩) (.inl rfl) (.int .i64 ((N : Int) + 1))
      change Code.wp _ _ _ _ (v0.setCell ⟨g, 0, none⟩ (.int .i64 ((N : Int) + 1)))
      clear X0 G0 B0 c0 f0 e1 hg
      generalize (v0.setCell ⟨g, 0, none⟩ (.int .i64 ((N : Int) + 1))) = v1 at *
      replace G1 : Box v1 g 74 #[.int .i64 ((N : Int) + 1), .int .i64 S] := G1
      have c0 := G1.cell 0 rfl
      have l0 := X1.cell 0 rfl
      have l1 := X1.cell 1 rfl
      have l2 := X1.cell 2 rfl
      have l3 := X1.cell 3 rfl
      go_wp2_with fail
      go_ret
      exact ⟨N + 1, S, by rw [HU.out]; rfl, by have := G1; rwa [show ((N + 1 : Nat) : Int) = (N : Int) + 1 by omega], (fun h => by rw [HU.out] at h; cases h), B1⟩
    have hd16' : ¬ (16 : Int) < d := by omega
    cases vh with
    | true =>
      have HU : Hid ((Sx.mk true true hi da ks).okR d N = false) := Lib.hid (okR_unclean (by rw [clean_def, headOk1]; rfl))
      have X0 := Box.new w 26 #[.bool true, .bool true, .slice a1 n1 k1, .slice a2 n2 k2, .slice a3 ks.length k3]
      have G0 := hg.alloc (.cells #[.bool true, .bool true, .slice a1 n1 k1, .slice a2 n2 k2, .slice a3 ks.length k3] 26)
      have B0 : But (fun k => k = g) w (w.alloc (.cells #[.bool true, .bool true, .slice a1 n1 k1, .slice a2 n2 k2, .slice a3 ks.length k3] 26)) := (But.refl (fun k => k = g) w).alloc _
      show Calls _ _ #[.pointer (some ⟨g, 0, none⟩), .agg #[.bool true, .bool true, .slice a1 n1 k1, .slice a2 n2 k2, .slice a3 ks.length k3], .int .i64 d] _ _
      go_enter Tryz.func37, Tryz.ntmps37
      go_upto_region 1 with fail
      change Code.wp _ _ _ _ (w.alloc (.cells #[.bool true, .bool true, .slice a1 n1 k1, .slice a2 n2 k2, .slice a3 ks.length k3] 26))
      generalize (w.alloc (.cells #[.bool true, .bool true, .slice a1 n1 k1, .slice a2 n2 k2, .slice a3 ks.length k3] 26)) = v0 at *
      have c0 := G0.cell 0 rfl
      have f0 := G0.frozen 0
      have e1 : IntKind.i64.wrap ((N : Int) + 1) = (N : Int) + 1 := IntWalk.i64_in _ ⟨by omega, by omega⟩
      go_upto_region 2 with fail
      have X1 := X0.far ⟨g, 0, none⟩ (.int .i64 ((N : Int) + 1)) (Ne.symm hgne)
      have G1 := G0.set 0 (.int .i64 ((N : Int) + 1))
      have B1 := B0.setCell (p := ⟨g, 0, none⟩) (.inl rfl) (.int .i64 ((N : Int) + 1))
      change Code.wp _ _ _ _ (v0.setCell ⟨g, 0, none⟩ (.int .i64 ((N : Int) + 1)))
      clear X0 G0 B0 c0 f0 e1 hg
      generalize (v0.setCell ⟨g, 0, none⟩ (.int .i64 ((N : Int) + 1))) = v1 at *
      replace G1 : Box v1 g 74 #[.int .i64 ((N : Int) + 1), .int .i64 S] := G1
      have c0 := G1.cell 0 rfl
      have l0 := X1.cell 0 rfl
      have l1 := X1.cell 1 rfl
      have l2 := X1.cell 2 rfl
      have l3 := X1.cell 3 rfl
      go_wp2_with fail
      go_ret
      exact ⟨N + 1, S, by rw [HU.out]; rfl, by have := G1; rwa [show ((N + 1 : Nat) : Int) = (N : Int) + 1 by omega], (fun h => by rw [HU.out] at h; cases h), B1⟩
    | false =>
    by_cases h12 : 0 < n1 + n2
    case pos =>
      have h12' : 0 < (n1 : Int) + n2 := by omega
      have h12e : IntKind.i64.wrap ((n1 : Int) + n2) = (n1 : Int) + n2 := IntWalk.i64_in _ ⟨by omega, by omega⟩
      have HU : Hid ((Sx.mk true false hi da ks).okR d N = false) := Lib.hid (okR_unclean (by
        rw [clean_def]
        have e1 := HN1.out
        have e2 := HN2.out
        rcases Nat.lt_or_ge 0 hi.length with h | h
        · rw [headOk2 _ _ h]; rfl
        · rw [headOk3 _ _ (by omega)]; rfl))
      have X0 := Box.new w 26 #[.bool true, .bool false, .slice a1 n1 k1, .slice a2 n2 k2, .slice a3 ks.length k3]
      have G0 := hg.alloc (.cells #[.bool true, .bool false, .slice a1 n1 k1, .slice a2 n2 k2, .slice a3 ks.length k3] 26)
      have B0 : But (fun k => k = g) w (w.alloc (.cells #[.bool true, .bool false, .slice a1 n1 k1, .slice a2 n2 k2, .slice a3 ks.length k3] 26)) := (But.refl (fun k => k = g) w).alloc _
      show Calls _ _ #[.pointer (some ⟨g, 0, none⟩), .agg #[.bool true, .bool false, .slice a1 n1 k1, .slice a2 n2 k2, .slice a3 ks.length k3], .int .i64 d] _ _
      go_enter Tryz.func37, Tryz.ntmps37
      go_upto_region 1 with fail
      change Code.wp _ _ _ _ (w.alloc (.cells #[.bool true, .bool false, .slice a1 n1 k1, .slice a2 n2 k2, .slice a3 ks.length k3] 26))
      generalize (w.alloc (.cells #[.bool true, .bool false, .slice a1 n1 k1, .slice a2 n2 k2, .slice a3 ks.length k3] 26)) = v0 at *
      have c0 := G0.cell 0 rfl
      have f0 := G0.frozen 0
      have e1 : IntKind.i64.wrap ((N : Int) + 1) = (N : Int) + 1 := IntWalk.i64_in _ ⟨by omega, by omega⟩
      go_upto_region 2 with fail
      have X1 := X0.far ⟨g, 0, none⟩ (.int .i64 ((N : Int) + 1)) (Ne.symm hgne)
      have G1 := G0.set 0 (.int .i64 ((N : Int) + 1))
      have B1 := B0.setCell (p := ⟨g, 0, none⟩) (.inl rfl) (.int .i64 ((N : Int) + 1))
      change Code.wp _ _ _ _ (v0.setCell ⟨g, 0, none⟩ (.int .i64 ((N : Int) + 1)))
      clear X0 G0 B0 c0 f0 e1 hg
      generalize (v0.setCell ⟨g, 0, none⟩ (.int .i64 ((N : Int) + 1))) = v1 at *
      replace G1 : Box v1 g 74 #[.int .i64 ((N : Int) + 1), .int .i64 S] := G1
      have c0 := G1.cell 0 rfl
      have l0 := X1.cell 0 rfl
      have l1 := X1.cell 1 rfl
      have l2 := X1.cell 2 rfl
      have l3 := X1.cell 3 rfl
      go_wp2_with fail
      go_ret
      exact ⟨N + 1, S, by rw [HU.out]; rfl, by have := G1; rwa [show ((N + 1 : Nat) : Int) = (N : Int) + 1 by omega], (fun h => by rw [HU.out] at h; cases h), B1⟩
    obtain rfl : n1 = 0 := by omega
    obtain rfl : n2 = 0 := by omega
    have h12' : ¬ 0 < ((0 : Nat) : Int) + ((0 : Nat) : Int) := by omega
    have HH : Hid (headOk true false hi.length da.length ks.length = true) := Lib.hid (headOk4 _ (by have := HN1.out; omega) (by have := HN2.out; omega))
    have X0 := Box.new w 26 #[.bool true, .bool false, .slice a1 0 k1, .slice a2 0 k2, .slice a3 ks.length k3]
    have G0 := hg.alloc (.cells #[.bool true, .bool false, .slice a1 0 k1, .slice a2 0 k2, .slice a3 ks.length k3] 26)
    have B0 : But (fun k => k = g) w (w.alloc (.cells #[.bool true, .bool false, .slice a1 0 k1, .slice a2 0 k2, .slice a3 ks.length k3] 26)) := (But.refl (fun k => k = g) w).alloc _
    show Calls _ _ #[.pointer (some ⟨g, 0, none⟩), .agg #[.bool true, .bool false, .slice a1 0 k1, .slice a2 0 k2, .slice a3 ks.length k3], .int .i64 d] _ _
    go_enter Tryz.func37, Tryz.ntmps37
    go_upto_region 1 with fail
    change Code.wp _ _ _ _ (w.alloc (.cells #[.bool true, .bool false, .slice a1 0 k1, .slice a2 0 k2, .slice a3 ks.length k3] 26))
    generalize (w.alloc (.cells #[.bool true, .bool false, .slice a1 0 k1, .slice a2 0 k2, .slice a3 ks.length k3] 26)) = v0 at *
    have c0 := G0.cell 0 rfl
    have f0 := G0.frozen 0
    have e1 : IntKind.i64.wrap ((N : Int) + 1) = (N : Int) + 1 := IntWalk.i64_in _ ⟨by omega, by omega⟩
    go_upto_region 2 with fail
    have X1 := X0.far ⟨g, 0, none⟩ (.int .i64 ((N : Int) + 1)) (Ne.symm hgne)
    have G1 := G0.set 0 (.int .i64 ((N : Int) + 1))
    have B1 := B0.setCell (p := ⟨g, 0, none⟩) (.inl rfl) (.int .i64 ((N : Int) + 1))
    change Code.wp _ _ _ _ (v0.setCell ⟨g, 0, none⟩ (.int .i64 ((N : Int) + 1)))
    clear X0 G0 B0 c0 f0 e1 hg
    generalize (v0.setCell ⟨g, 0, none⟩ (.int .i64 ((N : Int) + 1))) = v1 at *
    replace G1 : Box v1 g 74 #[.int .i64 ((N : Int) + 1), .int .i64 S] := G1
    have c0 := G1.cell 0 rfl
    have c1 := G1.cell 1 rfl
    have f1 := G1.frozen 1
    have l0 := X1.cell 0 rfl
    have l1 := X1.cell 1 rfl
    have l2 := X1.cell 2 rfl
    have l3 := X1.cell 3 rfl
    have e2 : IntKind.i64.wrap ((S : Int) + 2) = (S : Int) + 2 := IntWalk.i64_in _ ⟨by omega, by omega⟩
    go_upto_region 13 with fail
    have X2 := X1.far ⟨g, 1, none⟩ (.int .i64 ((S : Int) + 2)) (Ne.symm hgne)
    have G2 := G1.set 1 (.int .i64 ((S : Int) + 2))
    have B2 := B1.setCell (p := ⟨g, 1, none⟩) (.inl rfl) (.int .i64 ((S : Int) + 2))
    change Code.wp _ _ _ _ (v1.setCell ⟨g, 1, none⟩ (.int .i64 ((S : Int) + 2)))
    clear X1 G1 B1 c0 c1 f1 l0 l1 l2 l3 e2
    generalize (v1.setCell ⟨g, 1, none⟩ (.int .i64 ((S : Int) + 2))) = v2 at *
    replace G2 : Box v2 g 74 #[.int .i64 ((N + 1 : Nat) : Int), .int .i64 ((S + 2 : Nat) : Int)] := by rw [show ((N + 1 : Nat) : Int) = (N : Int) + 1 by omega, show ((S + 2 : Nat) : Int) = (S : Int) + 2 by omega]; exact G2
    have l4 := X2.cell 4 rfl
    go_wp2_with fail
    go_loopw [8, 81] (fun _ k wr => ∃ n : Nat, n ≤ ks.length ∧ k = .int .i64 n ∧ Hid (Sx.cleanL (ks.take n) = true ∧ Sx.deepL (ks.take n) + d ≤ 16) ∧ N + 1 + Sx.nodesL (ks.take n) ≤ 512 ∧ S + 2 + (Sx.formL (ks.take n)).length ≤ 300000 * (N + 1 + Sx.nodesL (ks.take n)) ∧
      Box wr g 74 #[.int .i64 ((N + 1 + Sx.nodesL (ks.take n) : Nat) : Int), .int .i64 ((S + 2 + (Sx.formL (ks.take n)).length : Nat) : Int)] ∧ Box wr w.heap.size 26 #[.bool true, .bool false, .slice a1 0 k1, .slice a2 0 k2, .slice a3 ks.length k3] ∧ But (fun k => k = g) w wr) (fun _ k _ => ks.length - (intOf k).toNat)
    case atStart => exact ⟨0, Nat.zero_le _, rfl, Lib.hid ⟨rfl, by simp [Sx.deepL]; omega⟩, by simp [Sx.nodesL]; omega, by simp [Sx.nodesL, Sx.formL]; omega, by simpa [Sx.nodesL, Sx.formL] using G2, X2, B2⟩
    case round =>
      obtain ⟨n, hnl, rfl, HC, hN2, hS2, G, X, B⟩ := hrel
      clear X2 G2 B2 l4
      have l4 := X.cell 4 rfl
      by_cases hlt : n < ks.length
      · obtain ⟨b, o, rfl, hld⟩ := (HR.out.but B HRR.out.inb.2.2 (fun k h => h)).range hlt
        have HL := Lib.hid hld
        have hrd := (HK.out n hlt).but B (fun k h => h)
        have hks := HWK.out ks[n] (List.getElem_mem hlt)
        have hfk := form_broad _ _ hks
        have HRd := Lib.hid hrd
        have HKS := Lib.hid hks
        have htab := Lib.hid (HTX.out.but B)
        have ewr : IntKind.i64.wrap ((d : Int) + 1) = (d : Int) + 1 := IntWalk.i64_in _ ⟨by omega, by omega⟩
        obtain ⟨ck, hck⟩ : ∃ ck, ck = ks[n].okR (d + 1) (N + 1 + Sx.nodesL (ks.take n)) := ⟨_, rfl⟩
        have HCK := Lib.hid hck
        have IH2 : Hid (∀ w, Box w g 74 #[.int .i64 ((N + 1 + Sx.nodesL (ks.take n) : Nat) : Int), .int .i64 ((S + 2 + (Sx.formL (ks.take n)).length : Nat) : Int)] → RdI (fun k => k ≠ g) w (K n) ks[n] → TabX (fun k => k = g) w →
            Calls Tryz.prog 37 #[.pointer (some ⟨g, 0, none⟩), (K n).val, .int .i64 ((d : Int) + 1)] w (RightP g ck (N + 1 + Sx.nodesL (ks.take n) + ks[n].nodes) (S + 2 + (Sx.formL (ks.take n)).length + ks[n].form.length) w)) :=
          Lib.hid fun w h1 h2 h3 => by
            have := IH.out _ (List.getElem_mem hlt) (K n) g (N + 1 + Sx.nodesL (ks.take n)) (S + 2 + (Sx.formL (ks.take n)).length) (d + 1) (m + 1) w h1 h2 HKS.out h3 hN2 hS2 (by omega)
            rw [← hck] at this
            exact this
        clear hrd hld hks hck
        go_upto_region 16 with first | (refine wpList_load_sv rfl _ rfl b _ rfl _ HL.out ?_) | (refine wpList_store_box (cells := (K n).cells) rfl 26 _ _ rfl (Box.new _ _ _) (by rfl) (by rfl) rfl (by kernel_rfl) (SV.one _) ?_; intro u1 Y1 st1)
        have hbu : Below wr.heap.size wr u1 := st1.below wr.heap.size wr (Nat.le_refl _) ((Below.refl _ _).alloc (Nat.le_refl _) _)
        have hwz := B.size
        have hgz := G.lt
        have B' : But (fun k => k = g) w u1 := (B.alloc _).trans (But.ofStored st1 (st1.below 0 _ (Nat.zero_le _) (Below.refl 0 _))) (fun k hk => .inr (by omega))
        have G' := G.after hbu
        have X' := X.after hbu
        have HRd' := Lib.hid (HRd.out.after hbu)
        have htab' := Lib.hid (htab.out.but (But.ofBelow hbu))
        have HY := Lib.hid Y1
        have hzu : wr.heap.size < u1.heap.size := Y1.lt
        clear st1 hbu B G X HRd htab HL Y1 l4
        go_wp2_with (refine wpList_load_box rfl 26 _ rfl HY.out (by rfl) Tryz.underlying26 rfl (by kernel_rfl) ?_)
        refine (IH2.out _ G' HRd'.out htab'.out).mono ?_
        rintro e v3 ⟨N3, S3, rfl, G3, hok, b3⟩
        have X3 := b3.box X' (by omega)
        have B3 := B'.trans b3 (fun k hk => .inl hk)
        have HOK := Lib.hid hok
        clear hok b3 G' X' B'
        cases ck with
        | false =>
          have HU : Hid ((Sx.mk true false hi da ks).okR d N = false) := Lib.hid (okR_kid n hlt HCK.out.symm)
          go_wp2_with fail
          go_ret
          exact ⟨N3, S3, by rw [HU.out]; rfl, G3, (fun h => by rw [HU.out] at h; cases h), B3⟩
        | true =>
          have hpp := okR_parts HCK.out.symm
          have HPP := Lib.hid hpp
          have hp2 := hpp.2.1
          have HSN := Lib.hid (Sx.nodesL_snoc ks n hlt)
          have HSF := Lib.hid (Sx.formL_snoc ks n hlt)
          have hfk' := hfk
          clear hpp
          go_wp2_with fail
          go_roundw
          case rel =>
            obtain ⟨rfl, rfl⟩ := HOK.out (by trivial)
            refine ⟨n + 1, by omega, by go_num, Lib.hid ⟨by rw [Sx.cleanL_snoc ks n hlt, HC.out.1, HPP.out.1]; rfl, by rw [Sx.deepL_snoc ks n hlt]; have := HC.out.2; have := HPP.out.2.2; omega⟩, by rw [HSN.out]; omega, by rw [HSN.out, HSF.out, List.length_append]; omega, ?_, X3, B3⟩
            rw [HSN.out, HSF.out, List.length_append, ← Nat.add_assoc, ← Nat.add_assoc]
            exact G3
          case measure => simp [intOf]; omega
      · have hnn : n = ks.length := by omega
        subst hnn
        have hC := HC.out
        rw [List.take_length] at hC hN2 G
        have HU : Hid ((Sx.mk true false hi da ks).okR d N = true) := Lib.hid (okR_list (by omega) hmany HH.out ⟨hC.1, hC.2, hN2⟩)
        have G' := Lib.hid G
        clear hC G HC
        go_wp2_with fail
        go_ret
        refine ⟨_, _, by rw [HU.out]; rfl, G'.out, fun _ => ⟨by simp only [Sx.nodes]; omega, ?_⟩, B⟩
        rw [form_def, if_pos rfl]
        simp only [List.length_cons, List.length_append, List.length_nil]
        omega

set_option maxHeartbeats 2000000 in
set_option maxRecDepth 100000 in
theorem mayB_any (s : Sx) (v : SV) (w : World) (hr : Rd w v s) (m : Nat) (hw : s.broad m = false) (ht : Tab w) : Calls Tryz.prog 18 #[v.val] w fun e w' => e = .returned (.bool s.may) ∧ Below w.heap.size w w' := by
  obtain ⟨vl, vh, a1, n1, k1, a2, n2, k2, a3, n3, k3⟩ := v
  have B0 : Below w.heap.size w ((w.alloc (.cells #[.bool vl, .bool vh, .slice a1 n1 k1, .slice a2 n2 k2, .slice a3 n3 k3] 26)).alloc (.cells #[.int .i64 0, .int .i64 0] 74)) := ((Below.refl _ _).alloc (Nat.le_refl _) _).alloc (by simp) _
  have X0 : Box ((w.alloc (.cells #[.bool vl, .bool vh, .slice a1 n1 k1, .slice a2 n2 k2, .slice a3 n3 k3] 26)).alloc (.cells #[.int .i64 0, .int .i64 0] 74)) w.heap.size 26 #[.bool vl, .bool vh, .slice a1 n1 k1, .slice a2 n2 k2, .slice a3 n3 k3] := (Box.new _ _ _).alloc _
  have G0 : Box ((w.alloc (.cells #[.bool vl, .bool vh, .slice a1 n1 k1, .slice a2 n2 k2, .slice a3 n3 k3] 26)).alloc (.cells #[.int .i64 0, .int .i64 0] 74)) (w.heap.size + 1) 74 #[.int .i64 0, .int .i64 0] := by
    have := Box.new (w.alloc (.cells #[.bool vl, .bool vh, .slice a1 n1 k1, .slice a2 n2 k2, .slice a3 n3 k3] 26)) 74 #[.int .i64 0, .int .i64 0]
    simpa using this
  have hrd := (hr.there.mono (ok' := fun k => k ≠ w.heap.size + 1) (fun b hb => by have := hb.2; omega)).after B0
  have htx : TabX (fun k => k = w.heap.size + 1) ((w.alloc (.cells #[.bool vl, .bool vh, .slice a1 n1 k1, .slice a2 n2 k2, .slice a3 n3 k3] 26)).alloc (.cells #[.int .i64 0, .int .i64 0] 74)) := TabX.new ht B0 (fun k hk => by omega)
  obtain ⟨ok, hok⟩ : ∃ ok, ok = s.okR 1 0 := ⟨_, rfl⟩
  have HM : Hid (s.may = (ok && decide (s.form.length ≤ 4096))) := Lib.hid (by rw [hok]; exact may_okR s)
  have CALL := Lib.hid (rightB_any s ⟨vl, vh, a1, n1, k1, a2, n2, k2, a3, n3, k3⟩ (w.heap.size + 1) 0 0 1 m ((w.alloc (.cells #[.bool vl, .bool vh, .slice a1 n1 k1, .slice a2 n2 k2, .slice a3 n3 k3] 26)).alloc (.cells #[.int .i64 0, .int .i64 0] 74)) G0 hrd hw htx (by omega) (by omega) (by omega))
  rw [← hok, Nat.zero_add, Nat.zero_add] at CALL
  have HX := Lib.hid X0
  clear hrd htx hok hr ht hw X0 G0
  show Calls _ _ #[.agg #[.bool vl, .bool vh, .slice a1 n1 k1, .slice a2 n2 k2, .slice a3 n3 k3]] _ _
  go_enter Tryz.func18, Tryz.ntmps18
  go_upto_region 2 with fail
  change Code.wp _ _ _ _ ((w.alloc (.cells #[.bool vl, .bool vh, .slice a1 n1 k1, .slice a2 n2 k2, .slice a3 n3 k3] 26)).alloc (.cells #[.int .i64 0, .int .i64 0] 74))
  have hz : w.heap.size ≤ ((w.alloc (.cells #[.bool vl, .bool vh, .slice a1 n1 k1, .slice a2 n2 k2, .slice a3 n3 k3] 26)).alloc (.cells #[.int .i64 0, .int .i64 0] 74)).heap.size := by simp; omega
  generalize ((w.alloc (.cells #[.bool vl, .bool vh, .slice a1 n1 k1, .slice a2 n2 k2, .slice a3 n3 k3] 26)).alloc (.cells #[.int .i64 0, .int .i64 0] 74)) = v0 at *
  go_wp2_with (refine wpList_load_box rfl 26 _ rfl HX.out (by rfl) Tryz.underlying26 rfl (by kernel_rfl) ?_)
  refine CALL.out.mono ?_
  rintro e v1 ⟨N2, S2, rfl, G1, hN, b1⟩
  have HB := But.after B0 b1 hz (fun k hk => by omega)
  have HOK := Lib.hid hN
  have g1 := G1.cell 1 rfl
  clear hN b1 CALL
  cases ok with
  | false =>
    go_wp2_with fail
    go_ret
    exact ⟨by rw [HM.out]; rfl, HB⟩
  | true =>
    obtain ⟨rfl, rfl⟩ := HOK.out (by trivial)
    go_wp2_with fail
    go_ret
    exact ⟨by
      rw [HM.out]
      show Ending.returned (.bool (decide ((s.form.length : Int) ≤ 4096))) = _
      rw [show decide ((s.form.length : Int) ≤ 4096) = decide (s.form.length ≤ 4096) from decide_eq_decide.2 (by omega)]
      rfl, HB⟩


theorem broad_mk {l h : Bool} {hi da : List UInt8} {ks : List Sx} {m : Nat} (h1 : m ≤ 60) (h2 : ks.length ≤ 700) (h3 : hi.length ≤ 100000) (h4 : da.length ≤ 100000) (h5 : ∀ k ∈ ks, k.broad (m + 1) = false) : (Sx.mk l h hi da ks).broad m = false := by
  rw [broad_def, decide_eq_false (by omega), decide_eq_false (by omega), decide_eq_false (by omega), decide_eq_false (by omega)]
  have : ∀ (r : List Sx), (∀ k ∈ r, k.broad (m + 1) = false) → Sx.broadL r (m + 1) = false := by
    intro r
    induction r with
    | nil => intro _; rfl
    | cons a r ih => intro hr; simp only [Sx.broadL]; rw [hr a List.mem_cons_self, ih (fun k hk => hr k (List.mem_cons_of_mem _ hk))]; rfl
  rw [this ks h5]
  rfl
theorem unb_len : ∀ l : List UInt8, (unb l).length ≤ l.length
  | [] => by simp [unb]
  | [_] => by simp [unb]
  | [_, _] => by simp [unb]
  | [_, _, _] => by simp [unb]
  | a :: b :: c :: d :: t => by
    have := unb_len t
    have h4 : (dec4 a b c d).length ≤ 4 := by
      unfold dec4
      split <;> (try split) <;> (try split) <;> simp
      all_goals (try split) <;> simp
    simp only [unb, List.length_append, List.length_cons]
    omega
theorem unhex_len : ∀ (l b : List UInt8), unhex l = some b → b.length ≤ l.length
  | [], b, h => by simp [unhex] at h; subst h; simp
  | [_], b, h => by simp [unhex] at h
  | x :: y :: t, b, h => by
    unfold unhex at h
    split at h
    · cases hu : unhex t with
      | none => rw [hu] at h; simp at h
      | some c =>
        rw [hu] at h
        simp at h
        have := unhex_len t c hu
        subst h
        simp
        omega
    · cases h
theorem nDigs_len (base : Nat) (l : List UInt8) : ∀ k F p X, (nDigs base l k F p X).b.length ≤ 1
  | 0, F, p, X => by simp [nDigs]
  | k + 1, F, p, X => by
    unfold nDigs
    split
    · simp [BR.err]
    · split
      · split
        · exact nDigs_len base l k _ _ _
        · simp [BR.err]
      · simp [BR.err]
theorem nEsc_len (l : List UInt8) (p : Nat) : (nEsc l p).b.length ≤ 1 := by
  unfold nEsc
  split
  · simp [BR.err]
  · split
    · exact nDigs_len _ _ _ _ _ _
    · split
      · exact nDigs_len _ _ _ _ _ _
      · split <;> simp [BR.err]
theorem nQuo_len (l : List UInt8) : ∀ f p, (nQuo l f p).b.length ≤ f
  | 0, p => by simp [nQuo, BR.err]
  | f + 1, p => by
    unfold nQuo
    split
    · simp [BR.err]
    · split
      · simp
      · split
        · have := nQuo_len l f (p + 1)
          unfold BR.pre
          split
          · simp; omega
          · omega
        · split
          · have := nEsc_len l (p + 1); omega
          · have := nQuo_len l f (nEsc l (p + 1)).p
            have := nEsc_len l (p + 1)
            unfold BR.pre
            split
            · simp; omega
            · omega
theorem nPlain_len (l : List UInt8) (p : Nat) : (nPlain l p).b.length ≤ l.length + 1 := by
  unfold nPlain
  split
  · simp [BR.err]
  · split
    · unfold nLen
      dsimp only
      split
      · simp [BR.err]
      · split
        · simp [BR.err]
        · split
          · simp [BR.err]
          · split
            · simp [BR.err]
            · simp; omega
    · split
      · exact nQuo_len l _ _
      · split
        · have hl := nSome_len hexC 35 (l.drop (p + 1)) (p + 1)
          rw [List.length_drop] at hl
          unfold nHex
          dsimp only
          split
          · simp [BR.err]
          · split
            · rename_i b hb
              have := unhex_len _ _ hb
              dsimp only
              omega
            · simp [BR.err]
        · split
          · have hl := nSome_len b64C 124 (l.drop (p + 1)) (p + 1)
            rw [List.length_drop] at hl
            unfold nB64
            dsimp only
            split
            · simp [BR.err]
            · split
              · rename_i b hb
                unfold unb64 at hb
                split at hb
                · cases hb
                  have := unb_len (nSome b64C 124 (l.drop (p + 1)) (p + 1)).b
                  dsimp only
                  omega
                · cases hb
              · simp [BR.err]
          · split
            · have := (List.takeWhile_sublist (l := l.drop p) signB).length_le
              rw [List.length_drop] at this
              dsimp only
              omega
            · simp [BR.err]
/-- what is read is not broad, and has as many values as were counted -/
def NtOk (l : List UInt8) (m : Option (List Sx)) (lv n : Nat) (r : RV) : Prop :=
  match m with
  | none => r.v.broad lv = false ∧ r.n = n + r.v.nodes
  | some acc => (∀ k ∈ acc, k.broad (lv + 1) = false) → acc.length ≤ n → r.v.broad lv = false ∧ r.n + 1 + Sx.nodesL acc = n + r.v.nodes
def lvMax : Option (List Sx) → Nat | none => 17 | some _ => 16
theorem Nt_ok {l : List UInt8} {m : Option (List Sx)} {p lv n : Nat} {r : RV} (h : Nt l m p lv n r) (hl : l.length < 100000) : r.e = 0 → lv ≤ lvMax m → n ≤ 512 → p ≤ l.length → NtOk l m lv n r := by
  induction h with
  | short h1 => intro he; simp [RV.err] at he
  | bad h1 h2 => intro he; simp [RV.err] at he
  | long h1 h2 h3 => intro he; simp [RV.err] at he
  | @hint p lv n h1 h2 h3 =>
    intro he hlv hn hp
    replace hlv : lv ≤ 17 := hlv
    unfold nHint at he ⊢
    dsimp only at he ⊢
    split at he
    · rename_i h4; exact absurd he h4
    · rename_i h4
      rw [if_neg h4]
      split at he
      · simp [RV.err] at he
      · rename_i h5
        rw [if_neg h5]
        split at he
        · simp [RV.err] at he
        · rename_i h6
          rw [if_neg h6]
          split at he
          · rename_i h7; exact absurd he h7
          · rename_i h7
            rw [if_neg h7]
            exact ⟨broad_mk (by omega) (by simp) (by have := nPlain_len l (skipN l (skipN l p + 1)); omega) (by have := nPlain_len l (skipN l (skipN l (nPlain l (skipN l (skipN l p + 1))).p + 1)); omega) (by simp), by simp [Sx.nodes, Sx.nodesL]⟩
  | @atom p lv n h1 h2 h3 h4 h5 =>
    intro he hlv hn hp
    replace hlv : lv ≤ 17 := hlv
    unfold nAtom at he ⊢
    dsimp only at he ⊢
    split at he
    · rename_i h6; exact absurd he h6
    · rename_i h6
      rw [if_neg h6]
      exact ⟨broad_mk (by omega) (by simp) (by simp) (by have := nPlain_len l (skipN l p); omega) (by simp), by simp [Sx.nodes, Sx.nodesL]⟩
  | list h1 h2 h3 h4 h5 ih =>
    intro he hlv hn hp
    have := ih he h4 h3 (by omega) (by simp) (by simp)
    refine ⟨this.1, ?_⟩
    have h := this.2
    simp only [Sx.nodesL] at h
    omega
  | @close p lv n acc h1 h2 =>
    intro he hlv hn hp hk ha
    replace hlv : lv ≤ 16 := hlv
    exact ⟨broad_mk (by omega) (by omega) (by simp) (by simp) hk, by simp only [Sx.nodes]; omega⟩
  | fail h1 h2 h3 ih => intro he; exact absurd he h3
  | @more p lv n acc r r2 h1 h2 h3 h4 h5 ih1 ih2 =>
    intro he hlv hn hp hk ha
    replace hlv : lv ≤ 16 := hlv
    have hs := skipN_le hp
    have hpl := Nt_place h3 h4 (by omega)
    have hl17 : lv + 1 ≤ 17 := by omega
    have a1 := ih1 h4 hl17 hn (by omega)
    have a2 := ih2 he hlv (hpl.2.2.1 hn) (by omega) (by
      intro k hk'
      rcases List.mem_append.1 hk' with h | h
      · exact hk k h
      · simp at h; subst h; exact a1.1) (by simp; have := hpl.2.2.2; have := a1.2; have := nodes_pos r.v; omega)
    refine ⟨a2.1, ?_⟩
    have h := a2.2
    rw [Sx.nodesL_append] at h
    simp only [Sx.nodesL] at h
    have := a1.2
    omega
end Go.Proofs.YtkbblhioncecmaaGreatDoor

/- The document's reader of advanced forms: bytes with their length, signs up to an end. -/
import Derived.Test.YtkbblhioncecmaaDoorNuA
import Derived.Test.YtkbblhioncecmaaDoorNtE
namespace Go.Proofs.YtkbblhioncecmaaDoor
open Go.RowKit
set_option linter.unusedSimpArgs false
set_option linter.unusedVariables false

/-- bytes that were read are handed back -/
def BPost (r : BR) (w : World) (e : Ending) (w' : World) : Prop :=
  ∃ a n c, e = .returned (.agg #[.slice a n c, .int .i64 r.p, .int .i64 r.e]) ∧ Sl w' a n c r.b ∧ InB (fun k => w.heap.size ≤ k) a n ∧ Below w.heap.size w w'
theorem bp_err {r : BR} {p e : Nat} (h : r = BR.err p e) {w w' : World} (hb : Below w.heap.size w w') : BPost r w (.returned (.agg #[.slice none 0 0, .int .i64 p, .int .i64 e])) w' := by
  subst h
  exact ⟨none, 0, 0, rfl, Sl.nil _, .inl rfl, hb⟩
theorem bp_ok {r : BR} {l : List UInt8} {p : Nat} {z : Int} (h : r = ⟨l, p, 0⟩) (hz : z = (p : Int)) {w w' : World} {a : Option Addr} {n c : Nat} (hs : Sl w' a n c l) (hi : InB (fun k => w.heap.size ≤ k) a n) (hb : Below w.heap.size w w') :
    BPost r w (.returned (.agg #[.slice a n c, .int .i64 z, .int .i64 0])) w' := by
  subst h hz
  exact ⟨a, n, c, rfl, hs, hi, hb⟩
theorem Sl.keepSt {w u : World} {a : Option Addr} {n c g B : Nat} {l : List UInt8} (h : Sl w a n c l) (hi : InB (fun k => B ≤ k) a n) (st : Stored w u g) (hg : g < B) : Sl u a n c l :=
  h.keep (hi.imp id fun h b o s e => st.other b (by have := h b o s e; omega))
theorem getD_char {s : ByteArray} {p : Nat} (h : p < s.size) {c : UInt8} (hc : s.data.toList.getD p 0 = c) : s[p] = c := (getD_byte s p h).trans hc

set_option maxHeartbeats 8000000 in
set_option maxRecDepth 100000 in
theorem rlength_any (s : ByteArray) (p : Nat) (w : World) (hs : s.size ≤ 100000) (hp : p ≤ s.size) : Calls Tryd.prog 70 #[.string s, .int .i64 p] w (BPost (nLen s.data.toList p) w) := by
  have HL : Hid (s.data.toList.length = s.size) := Lib.hid (by simp)
  obtain ⟨R, hR⟩ : ∃ R, R = nLen s.data.toList p := ⟨_, rfl⟩
  rw [← hR]
  have HR := Lib.hid hR
  clear hR
  have B0 : Below w.heap.size w (w.alloc (.cells #[.slice none 0 0, .int .i64 0, .int .i64 0] 81)) := (Below.refl _ _).alloc (Nat.le_refl _) _
  have X0 := Lib.hid (Box.new w 81 #[.slice none 0 0, .int .i64 0, .int .i64 0])
  rcases lenR_cases s.data.toList p 4096 with ⟨h1, e1⟩ | ⟨h1, h2, e1⟩ | ⟨h1, e1⟩ | ⟨k, N, hk, hpk, hmk, ht, e1⟩
  · have E1 := Lib.hid e1
    have HE : Hid (R = BR.err p 2) := Lib.hid (by rw [HR.out]; unfold nLen; simp only [e1]; simp)
    clear e1 HR
    go_enter Tryd.func70, Tryd.ntmps70
    go_upto_region 1 with fail
    change Code.wp _ _ _ _ (w.alloc (.cells #[.slice none 0 0, .int .i64 0, .int .i64 0] 81))
    generalize (w.alloc (.cells #[.slice none 0 0, .int .i64 0, .int .i64 0] 81)) = v0 at *
    obtain ⟨v6, w6, hr6, ho6, b6⟩ := conv_own v0 s (by omega)
    obtain ⟨a6, n6, c6, rfl, sl6, in6⟩ := OwnB.parts ho6
    have HN6 : Hid (n6 ≤ 100000) := Lib.hid (by rw [sl6.1, HL.out]; exact hs)
    have SL6 := Lib.hid sl6
    have X6 := Lib.hid (X0.out.after b6)
    have B6 := B0.trans (b6.mono B0.size)
    clear sl6 in6 ho6 X0 B0 b6
    go_wp2_with fail
    refine (refLen_any a6 n6 c6 s.data.toList p 4096 4096 w6 SL6.out (by have := HN6.out; omega) (by omega) (by omega) rfl (by omega)).mono ?_
    rintro e w7 ⟨rfl, b7⟩
    rw [E1.out]
    have X7 := Lib.hid (X6.out.after b7)
    have B7 := B6.trans (b7.mono B6.size)
    clear hr6 SL6 HN6 X6 B6 b7 E1
    go_wp2_with (refine wpList_store_box (cells := #[.slice none 0 0, .int .i64 p, .int .i64 2]) rfl 81 _ _ rfl X7.out (by rfl) (by rfl) rfl (by kernel_rfl) (by simp [Value.oneCell']) ?_; intro u9 X9 st9)
    have B9 := st9.below w.heap.size w (Nat.le_refl _) B7
    exact bodyPost_ret (v := .agg #[.slice none 0 0, .int .i64 p, .int .i64 2]) (box_result rfl _ _ (by rfl) X9 Tryd.underlying81 rfl (by kernel_rfl)) rfl (bp_err HE.out B9)
  · have E1 := Lib.hid e1
    have HE : Hid (R = BR.err p 3) := Lib.hid (by rw [HR.out]; unfold nLen; simp only [e1]; simp)
    clear e1 HR
    go_enter Tryd.func70, Tryd.ntmps70
    go_upto_region 1 with fail
    change Code.wp _ _ _ _ (w.alloc (.cells #[.slice none 0 0, .int .i64 0, .int .i64 0] 81))
    generalize (w.alloc (.cells #[.slice none 0 0, .int .i64 0, .int .i64 0] 81)) = v0 at *
    obtain ⟨v6, w6, hr6, ho6, b6⟩ := conv_own v0 s (by omega)
    obtain ⟨a6, n6, c6, rfl, sl6, in6⟩ := OwnB.parts ho6
    have HN6 : Hid (n6 ≤ 100000) := Lib.hid (by rw [sl6.1, HL.out]; exact hs)
    have SL6 := Lib.hid sl6
    have X6 := Lib.hid (X0.out.after b6)
    have B6 := B0.trans (b6.mono B0.size)
    clear sl6 in6 ho6 X0 B0 b6
    go_wp2_with fail
    refine (refLen_any a6 n6 c6 s.data.toList p 4096 4096 w6 SL6.out (by have := HN6.out; omega) (by omega) (by omega) rfl (by omega)).mono ?_
    rintro e w7 ⟨rfl, b7⟩
    rw [E1.out]
    have X7 := Lib.hid (X6.out.after b7)
    have B7 := B6.trans (b7.mono B6.size)
    clear hr6 SL6 HN6 X6 B6 b7 E1
    go_wp2_with (refine wpList_store_box (cells := #[.slice none 0 0, .int .i64 p, .int .i64 3]) rfl 81 _ _ rfl X7.out (by rfl) (by rfl) rfl (by kernel_rfl) (by simp [Value.oneCell']) ?_; intro u9 X9 st9)
    have B9 := st9.below w.heap.size w (Nat.le_refl _) B7
    exact bodyPost_ret (v := .agg #[.slice none 0 0, .int .i64 p, .int .i64 3]) (box_result rfl _ _ (by rfl) X9 Tryd.underlying81 rfl (by kernel_rfl)) rfl (bp_err HE.out B9)
  · have E1 := Lib.hid e1
    have HE : Hid (R = BR.err p 4) := Lib.hid (by rw [HR.out]; unfold nLen; simp only [e1]; simp)
    clear e1 HR
    go_enter Tryd.func70, Tryd.ntmps70
    go_upto_region 1 with fail
    change Code.wp _ _ _ _ (w.alloc (.cells #[.slice none 0 0, .int .i64 0, .int .i64 0] 81))
    generalize (w.alloc (.cells #[.slice none 0 0, .int .i64 0, .int .i64 0] 81)) = v0 at *
    obtain ⟨v6, w6, hr6, ho6, b6⟩ := conv_own v0 s (by omega)
    obtain ⟨a6, n6, c6, rfl, sl6, in6⟩ := OwnB.parts ho6
    have HN6 : Hid (n6 ≤ 100000) := Lib.hid (by rw [sl6.1, HL.out]; exact hs)
    have SL6 := Lib.hid sl6
    have X6 := Lib.hid (X0.out.after b6)
    have B6 := B0.trans (b6.mono B0.size)
    clear sl6 in6 ho6 X0 B0 b6
    go_wp2_with fail
    refine (refLen_any a6 n6 c6 s.data.toList p 4096 4096 w6 SL6.out (by have := HN6.out; omega) (by omega) (by omega) rfl (by omega)).mono ?_
    rintro e w7 ⟨rfl, b7⟩
    rw [E1.out]
    have X7 := Lib.hid (X6.out.after b7)
    have B7 := B6.trans (b7.mono B6.size)
    clear hr6 SL6 HN6 X6 B6 b7 E1
    go_wp2_with (refine wpList_store_box (cells := #[.slice none 0 0, .int .i64 p, .int .i64 4]) rfl 81 _ _ rfl X7.out (by rfl) (by rfl) rfl (by kernel_rfl) (by simp [Value.oneCell']) ?_; intro u9 X9 st9)
    have B9 := st9.below w.heap.size w (Nat.le_refl _) B7
    exact bodyPost_ret (v := .agg #[.slice none 0 0, .int .i64 p, .int .i64 4]) (box_result rfl _ _ (by rfl) X9 Tryd.underlying81 rfl (by kernel_rfl)) rfl (bp_err HE.out B9)
  · have E1 := Lib.hid e1
    obtain ⟨Q, hQ⟩ : ∃ Q, Q = p + k := ⟨_, rfl⟩
    have qQ : (p : Int) + (k : Int) = (Q : Int) := by omega
    have hQs : Q ≤ s.size := by have := HL.out; omega
    have HRE : Hid (R = if s.size ≤ Q then BR.err s.size 2 else if s.data.toList.getD Q 0 ≠ 58 then BR.err Q 3 else if s.size - Q - 1 < N then BR.err s.size 2 else ⟨(s.data.toList.drop (Q + 1)).take N, Q + 1 + N, 0⟩) := Lib.hid (by rw [HR.out]; unfold nLen; simp only [e1]; rw [← hQ]; simp [HL.out])
    replace E1 : Hid (lenR s.data.toList p 4096 = ((N : Int), (Q : Int), 0)) := Lib.hid (by rw [E1.out, hQ])
    clear e1 HR hk hpk ht qQ hQ
    by_cases h1 : s.size ≤ Q
    · have h1' : (s.size : Int) ≤ (Q : Int) := by omega
      have HE : Hid (R = BR.err s.size 2) := Lib.hid (by rw [HRE.out, if_pos h1])
      clear HRE h1 hQs
      go_enter Tryd.func70, Tryd.ntmps70
      go_upto_region 1 with fail
      change Code.wp _ _ _ _ (w.alloc (.cells #[.slice none 0 0, .int .i64 0, .int .i64 0] 81))
      generalize (w.alloc (.cells #[.slice none 0 0, .int .i64 0, .int .i64 0] 81)) = v0 at *
      obtain ⟨v6, w6, hr6, ho6, b6⟩ := conv_own v0 s (by omega)
      obtain ⟨a6, n6, c6, rfl, sl6, in6⟩ := OwnB.parts ho6
      have HN6 : Hid (n6 ≤ 100000) := Lib.hid (by rw [sl6.1, HL.out]; exact hs)
      have SL6 := Lib.hid sl6
      have X6 := Lib.hid (X0.out.after b6)
      have B6 := B0.trans (b6.mono B0.size)
      clear sl6 in6 ho6 X0 B0 b6
      go_wp2_with fail
      refine (refLen_any a6 n6 c6 s.data.toList p 4096 4096 w6 SL6.out (by have := HN6.out; omega) (by omega) (by omega) rfl (by omega)).mono ?_
      rintro e w7 ⟨rfl, b7⟩
      rw [E1.out]
      have X7 := Lib.hid (X6.out.after b7)
      have B7 := B6.trans (b7.mono B6.size)
      clear hr6 SL6 HN6 X6 B6 b7 E1
      go_wp2_with (refine wpList_store_box (cells := #[.slice none 0 0, .int .i64 s.size, .int .i64 2]) rfl 81 _ _ rfl X7.out (by rfl) (by rfl) rfl (by kernel_rfl) (by simp [Value.oneCell']) ?_; intro u9 X9 st9)
      have B9 := st9.below w.heap.size w (Nat.le_refl _) B7
      exact bodyPost_ret (v := .agg #[.slice none 0 0, .int .i64 s.size, .int .i64 2]) (box_result rfl _ _ (by rfl) X9 Tryd.underlying81 rfl (by kernel_rfl)) rfl (bp_err HE.out B9)
    · have h1' : ¬ (s.size : Int) ≤ (Q : Int) := by omega
      have hq0 : (0 : Int) ≤ (Q : Int) := by omega
      have hq1 : (Q : Int) < (s.size : Int) := by omega
      have hlt : Q < s.size := by omega
      obtain ⟨ch, hch, hc1, hc2⟩ := at_byte s Q hlt
      by_cases h58 : ch.toNat = 58
      · have h58' : ch = 58 := UInt8.toNat_inj.1 h58
        obtain ⟨z1, z2, z3⟩ := bEq 58 58 rfl h58
        clear z3
        by_cases hN : s.size - Q - 1 < N
        · have hN' : (s.size : Int) - (Q : Int) - 1 < (N : Int) := by omega
          have HE : Hid (R = BR.err s.size 2) := Lib.hid (by rw [HRE.out, if_neg h1, hc1.out, if_neg (by rw [h58']; simp), if_pos hN])
          clear HRE h1 hQs h58 h58' hN hc1 hc2
          go_enter Tryd.func70, Tryd.ntmps70
          go_upto_region 1 with fail
          change Code.wp _ _ _ _ (w.alloc (.cells #[.slice none 0 0, .int .i64 0, .int .i64 0] 81))
          generalize (w.alloc (.cells #[.slice none 0 0, .int .i64 0, .int .i64 0] 81)) = v0 at *
          obtain ⟨v6, w6, hr6, ho6, b6⟩ := conv_own v0 s (by omega)
          obtain ⟨a6, n6, c6, rfl, sl6, in6⟩ := OwnB.parts ho6
          have HN6 : Hid (n6 ≤ 100000) := Lib.hid (by rw [sl6.1, HL.out]; exact hs)
          have SL6 := Lib.hid sl6
          have X6 := Lib.hid (X0.out.after b6)
          have B6 := B0.trans (b6.mono B0.size)
          clear sl6 in6 ho6 X0 B0 b6
          go_wp2_with fail
          refine (refLen_any a6 n6 c6 s.data.toList p 4096 4096 w6 SL6.out (by have := HN6.out; omega) (by omega) (by omega) rfl (by omega)).mono ?_
          rintro e w7 ⟨rfl, b7⟩
          rw [E1.out]
          have X7 := Lib.hid (X6.out.after b7)
          have B7 := B6.trans (b7.mono B6.size)
          clear hr6 SL6 HN6 X6 B6 b7 E1
          go_wp2_with (refine wpList_store_box (cells := #[.slice none 0 0, .int .i64 s.size, .int .i64 2]) rfl 81 _ _ rfl X7.out (by rfl) (by rfl) rfl (by kernel_rfl) (by simp [Value.oneCell']) ?_; intro u9 X9 st9)
          have B9 := st9.below w.heap.size w (Nat.le_refl _) B7
          exact bodyPost_ret (v := .agg #[.slice none 0 0, .int .i64 s.size, .int .i64 2]) (box_result rfl _ _ (by rfl) X9 Tryd.underlying81 rfl (by kernel_rfl)) rfl (bp_err HE.out B9)
        · have hN' : ¬ (s.size : Int) - (Q : Int) - 1 < (N : Int) := by omega
          obtain ⟨q, hq⟩ : ∃ q, q = Q + 1 := ⟨_, rfl⟩
          obtain ⟨T, hT⟩ : ∃ T, T = q + N := ⟨_, rfl⟩
          have q1 : (Q : Int) + 1 = (q : Int) := by omega
          have q2 : (q : Int) + (N : Int) = (T : Int) := by omega
          have HE : Hid (R = ⟨(s.data.toList.drop q).take (T - q), T, 0⟩) := Lib.hid (by rw [HRE.out, if_neg h1, hc1.out, if_neg (by rw [h58']; simp), if_neg hN, ← hq, ← hT, hT, Nat.add_sub_cancel_left])
          have t1 : (0 : Int) ≤ (q : Int) := by omega
          have t2 : (q : Int) ≤ (T : Int) := by omega
          have t3 : (T : Int) ≤ (s.size : Int) := by omega
          have t4 : q ≤ T := by omega
          have t5 : T ≤ s.size := by omega
          clear HRE h1 hQs h58 h58' hN hc1 hc2 hq hT
          go_enter Tryd.func70, Tryd.ntmps70
          go_upto_region 1 with fail
          change Code.wp _ _ _ _ (w.alloc (.cells #[.slice none 0 0, .int .i64 0, .int .i64 0] 81))
          generalize (w.alloc (.cells #[.slice none 0 0, .int .i64 0, .int .i64 0] 81)) = v0 at *
          obtain ⟨v6, w6, hr6, ho6, b6⟩ := conv_own v0 s (by omega)
          obtain ⟨a6, n6, c6, rfl, sl6, in6⟩ := OwnB.parts ho6
          have HN6 : Hid (n6 ≤ 100000) := Lib.hid (by rw [sl6.1, HL.out]; exact hs)
          have SL6 := Lib.hid sl6
          have X6 := Lib.hid (X0.out.after b6)
          have B6 := B0.trans (b6.mono B0.size)
          clear sl6 in6 ho6 X0 B0 b6
          go_wp2_with fail
          refine (refLen_any a6 n6 c6 s.data.toList p 4096 4096 w6 SL6.out (by have := HN6.out; omega) (by omega) (by omega) rfl (by omega)).mono ?_
          rintro e w7 ⟨rfl, b7⟩
          rw [E1.out]
          have X7 := Lib.hid (X6.out.after b7)
          have B7 := B6.trans (b7.mono B6.size)
          clear hr6 SL6 HN6 X6 B6 b7 E1
          obtain ⟨v8, w8, hr8, ho8, b8⟩ := conv_own w7 (s.extract q T) (by simp; omega)
          obtain ⟨a8, n8, c8, rfl, sl8, in8⟩ := OwnB.parts ho8
          rw [extract_data] at sl8
          have SL8 := Lib.hid sl8
          have IN8 := Lib.hid in8
          have HB7 := Lib.hid X7.out.lt
          have X8 := Lib.hid (X7.out.after b8)
          have B8 := B7.trans (b8.mono B7.size)
          clear sl8 in8 ho8 X7 B7 b8
          go_wp2_with (refine wpList_store_box (cells := #[.slice a8 n8 c8, .int .i64 T, .int .i64 0]) rfl 81 _ _ rfl X8.out (by rfl) (by rfl) rfl (by kernel_rfl) (by simp [Value.oneCell']) ?_; intro u9 X9 st9)
          have B9 := st9.below w.heap.size w (Nat.le_refl _) B8
          exact bodyPost_ret (v := .agg #[.slice a8 n8 c8, .int .i64 T, .int .i64 0]) (box_result rfl _ _ (by rfl) X9 Tryd.underlying81 rfl (by kernel_rfl)) rfl (bp_ok HE.out rfl (SL8.out.keepSt IN8.out st9 HB7.out) (IN8.out.mono (fun k hk => Nat.le_trans (Nat.le_of_lt HB7.out) hk)) B9)
      · have hne : ch ≠ 58 := fun e => h58 (by rw [e]; rfl)
        obtain ⟨z1, z2, z3⟩ := bNe 58 58 rfl h58
        clear z3
        have HE : Hid (R = BR.err Q 3) := Lib.hid (by rw [HRE.out, if_neg h1, hc1.out, if_pos hne])
        clear HRE h1 hQs h58 hne hc1 hc2
        go_enter Tryd.func70, Tryd.ntmps70
        go_upto_region 1 with fail
        change Code.wp _ _ _ _ (w.alloc (.cells #[.slice none 0 0, .int .i64 0, .int .i64 0] 81))
        generalize (w.alloc (.cells #[.slice none 0 0, .int .i64 0, .int .i64 0] 81)) = v0 at *
        obtain ⟨v6, w6, hr6, ho6, b6⟩ := conv_own v0 s (by omega)
        obtain ⟨a6, n6, c6, rfl, sl6, in6⟩ := OwnB.parts ho6
        have HN6 : Hid (n6 ≤ 100000) := Lib.hid (by rw [sl6.1, HL.out]; exact hs)
        have SL6 := Lib.hid sl6
        have X6 := Lib.hid (X0.out.after b6)
        have B6 := B0.trans (b6.mono B0.size)
        clear sl6 in6 ho6 X0 B0 b6
        go_wp2_with fail
        refine (refLen_any a6 n6 c6 s.data.toList p 4096 4096 w6 SL6.out (by have := HN6.out; omega) (by omega) (by omega) rfl (by omega)).mono ?_
        rintro e w7 ⟨rfl, b7⟩
        rw [E1.out]
        have X7 := Lib.hid (X6.out.after b7)
        have B7 := B6.trans (b7.mono B6.size)
        clear hr6 SL6 HN6 X6 B6 b7 E1
        go_wp2_with (refine wpList_store_box (cells := #[.slice none 0 0, .int .i64 Q, .int .i64 3]) rfl 81 _ _ rfl X7.out (by rfl) (by rfl) rfl (by kernel_rfl) (by simp [Value.oneCell']) ?_; intro u9 X9 st9)
        have B9 := st9.below w.heap.size w (Nat.le_refl _) B7
        exact bodyPost_ret (v := .agg #[.slice none 0 0, .int .i64 Q, .int .i64 3]) (box_result rfl _ _ (by rfl) X9 Tryd.underlying81 rfl (by kernel_rfl)) rfl (bp_err HE.out B9)

end Go.Proofs.YtkbblhioncecmaaDoor

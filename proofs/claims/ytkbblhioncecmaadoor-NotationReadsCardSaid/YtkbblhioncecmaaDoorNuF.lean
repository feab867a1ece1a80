/- The document's reader of advanced forms: plain atoms, atoms with a hint. -/
import Derived.Test.YtkbblhioncecmaaDoorNuE
import Derived.Test.YtkbblhioncecmaaDoorNtP
namespace Go.Proofs.YtkbblhioncecmaaDoor
open Go.RowKit
set_option linter.unusedSimpArgs false
set_option linter.unusedVariables false

set_option maxHeartbeats 16000000 in
set_option maxRecDepth 100000 in
theorem rplain_any (s : ByteArray) (p : Nat) (w : World) (hs : s.size ≤ 100000) (hp : p ≤ s.size) : Calls Tryd.prog 52 #[.string s, .int .i64 p] w (BPost (nPlain s.data.toList p) w) := by
  obtain ⟨R, hR⟩ : ∃ R, R = nPlain s.data.toList p := ⟨_, rfl⟩
  rw [← hR]
  have HL : Hid (s.data.toList.length = s.size) := Lib.hid (by simp)
  unfold nPlain at hR
  rw [HL.out] at hR
  have HR := Lib.hid hR
  clear hR
  have B0 : Below w.heap.size w (w.alloc (.cells #[.slice none 0 0, .int .i64 0, .int .i64 0] 81)) := (Below.refl _ _).alloc (Nat.le_refl _) _
  have X0 := Lib.hid (Box.new w 81 #[.slice none 0 0, .int .i64 0, .int .i64 0])
  by_cases hend : s.size ≤ p
  case pos =>
    have hend' : (s.size : Int) ≤ (p : Int) := by omega
    have HE : Hid (R = BR.err s.size 2) := Lib.hid (by rw [HR.out, if_pos hend])
    clear HR
    go_enter Tryd.func52, Tryd.ntmps52
    go_upto_region 1 with fail
    change Code.wp _ _ _ _ (w.alloc (.cells #[.slice none 0 0, .int .i64 0, .int .i64 0] 81))
    generalize (w.alloc (.cells #[.slice none 0 0, .int .i64 0, .int .i64 0] 81)) = v0 at *
    go_wp2_with (refine wpList_store_box (cells := #[.slice none 0 0, .int .i64 s.size, .int .i64 2]) rfl 81 _ _ rfl X0.out (by rfl) (by rfl) rfl (by kernel_rfl) (by simp [Value.oneCell']) ?_; intro u9 X9 st9)
    have B9 := st9.below w.heap.size w (Nat.le_refl _) B0
    exact bodyPost_ret (v := .agg #[.slice none 0 0, .int .i64 s.size, .int .i64 2]) (box_result rfl _ _ (by rfl) X9 Tryd.underlying81 rfl (by kernel_rfl)) rfl (bp_err HE.out B9)
  have hend' : ¬ (s.size : Int) ≤ (p : Int) := by omega
  have hq0 : (0 : Int) ≤ (p : Int) := by omega
  have hq1 : (p : Int) < (s.size : Int) := by omega
  have hlt : p < s.size := by omega
  obtain ⟨c, hc, hc1, hc2⟩ := at_byte s p hlt
  replace HR : Hid (R = if numB c then nLen s.data.toList p else if c = 34 then nQuote s.data.toList (p + 1) else if c = 35 then nHex s.data.toList (p + 1) else if c = 124 then nB64 s.data.toList (p + 1) 124 else
    if signB c then ⟨(s.data.toList.drop p).takeWhile signB, p + ((s.data.toList.drop p).takeWhile signB).length, 0⟩ else BR.err p 3) := Lib.hid (by rw [HR.out, if_neg hend, hc1.out])
  clear hc1
  by_cases hnu : numB c = true
  case pos =>
    have HNU := Lib.hid hnu
    have HE : Hid (R = nLen s.data.toList p) := Lib.hid (by rw [HR.out, if_pos hnu])
    clear HR hnu hc2
    go_enter Tryd.func52, Tryd.ntmps52
    go_upto_region 1 with fail
    change Code.wp _ _ _ _ (w.alloc (.cells #[.slice none 0 0, .int .i64 0, .int .i64 0] 81))
    generalize (w.alloc (.cells #[.slice none 0 0, .int .i64 0, .int .i64 0] 81)) = v0 at *
    go_wp2_with fail
    refine (rnumber_any c _).mono ?_
    unfold BitP
    rintro e wn ⟨rfl, h0⟩
    obtain rfl := h0.symm
    rw [HNU.out]
    go_wp2_with fail
    refine (rlength_any s p _ hs hp).mono ?_
    rw [← HE.out]
    rintro e w1 ⟨a, n, c1, rfl, hs1, hi1, b1⟩
    have HS1 := Lib.hid hs1
    have HI1 := Lib.hid hi1
    have HZ := Lib.hid X0.out.lt
    have X1 := Lib.hid (X0.out.after b1)
    have B1 := B0.trans (b1.mono B0.size)
    clear hs1 hi1 b1 X0 B0 HE
    obtain ⟨Rb, Rp, Re⟩ := R
    dsimp only at HS1 ⊢
    go_wp2_with (refine wpList_store_box (cells := #[.slice a n c1, .int .i64 Rp, .int .i64 Re]) rfl 81 _ _ rfl X1.out (by rfl) (by rfl) rfl (by kernel_rfl) (by simp [Value.oneCell']) ?_; intro u9 X9 st9)
    have B9 := st9.below w.heap.size w (Nat.le_refl _) B1
    exact bodyPost_ret (v := .agg #[.slice a n c1, .int .i64 Rp, .int .i64 Re]) (box_result rfl _ _ (by rfl) X9 Tryd.underlying81 rfl (by kernel_rfl)) rfl (bp_mk (r := ⟨Rb, Rp, Re⟩) (HS1.out.keepSt HI1.out st9 HZ.out) (HI1.out.mono (fun k hk => Nat.le_trans (Nat.le_of_lt HZ.out) hk)) B9)
  have HNU : Hid (numB c = false) := Lib.hid (by simpa using hnu)
  have hpc : ((p + 1 : Nat) : Int) = (p : Int) + 1 := by omega
  by_cases h34 : c.toNat = 34
  case pos =>
    obtain ⟨z1, z2, z3⟩ := bEq 34 34 rfl h34
    have HE : Hid (R = nQuote s.data.toList (p + 1)) := Lib.hid (by rw [HR.out, if_neg hnu, if_pos (UInt8.toNat_inj.1 h34)])
    have CC : Hid (∀ w', Calls Tryd.prog 71 #[.string s, .int .i64 ((p : Int) + 1)] w' (BPost (nQuote s.data.toList (p + 1)) w')) := Lib.hid (fun w' => by rw [← hpc]; exact rquoted_any s (p + 1) w' hs hlt)
    clear HR h34 z3 hnu hc2 hpc
    go_enter Tryd.func52, Tryd.ntmps52
    go_upto_region 1 with fail
    change Code.wp _ _ _ _ (w.alloc (.cells #[.slice none 0 0, .int .i64 0, .int .i64 0] 81))
    generalize (w.alloc (.cells #[.slice none 0 0, .int .i64 0, .int .i64 0] 81)) = v0 at *
    go_wp2_with fail
    refine (rnumber_any c _).mono ?_
    unfold BitP
    rintro e wn ⟨rfl, h0⟩
    obtain rfl := h0.symm
    rw [HNU.out]
    go_wp2_with fail
    refine (CC.out _).mono ?_
    rw [← HE.out]
    rintro e w1 ⟨a, n, c1, rfl, hs1, hi1, b1⟩
    have HS1 := Lib.hid hs1
    have HI1 := Lib.hid hi1
    have HZ := Lib.hid X0.out.lt
    have X1 := Lib.hid (X0.out.after b1)
    have B1 := B0.trans (b1.mono B0.size)
    clear CC hs1 hi1 b1 X0 B0 HE
    obtain ⟨Rb, Rp, Re⟩ := R
    dsimp only at HS1 ⊢
    go_wp2_with (refine wpList_store_box (cells := #[.slice a n c1, .int .i64 Rp, .int .i64 Re]) rfl 81 _ _ rfl X1.out (by rfl) (by rfl) rfl (by kernel_rfl) (by simp [Value.oneCell']) ?_; intro u9 X9 st9)
    have B9 := st9.below w.heap.size w (Nat.le_refl _) B1
    exact bodyPost_ret (v := .agg #[.slice a n c1, .int .i64 Rp, .int .i64 Re]) (box_result rfl _ _ (by rfl) X9 Tryd.underlying81 rfl (by kernel_rfl)) rfl (bp_mk (r := ⟨Rb, Rp, Re⟩) (HS1.out.keepSt HI1.out st9 HZ.out) (HI1.out.mono (fun k hk => Nat.le_trans (Nat.le_of_lt HZ.out) hk)) B9)
  have n34 : c ≠ 34 := fun e => h34 (by rw [e]; rfl)
  obtain ⟨a34, b34, d34⟩ := bNe 34 34 rfl h34
  clear d34 h34
  by_cases h35 : c.toNat = 35
  case pos =>
    obtain ⟨z1, z2, z3⟩ := bEq 35 35 rfl h35
    have HE : Hid (R = nHex s.data.toList (p + 1)) := Lib.hid (by rw [HR.out, if_neg hnu, if_neg n34, if_pos (UInt8.toNat_inj.1 h35)])
    have CC : Hid (∀ w', Calls Tryd.prog 72 #[.string s, .int .i64 ((p : Int) + 1)] w' (BPost (nHex s.data.toList (p + 1)) w')) := Lib.hid (fun w' => by rw [← hpc]; exact rhex_any s (p + 1) w' hs hlt)
    clear HR h35 z3 hnu hc2 hpc
    go_enter Tryd.func52, Tryd.ntmps52
    go_upto_region 1 with fail
    change Code.wp _ _ _ _ (w.alloc (.cells #[.slice none 0 0, .int .i64 0, .int .i64 0] 81))
    generalize (w.alloc (.cells #[.slice none 0 0, .int .i64 0, .int .i64 0] 81)) = v0 at *
    go_wp2_with fail
    refine (rnumber_any c _).mono ?_
    unfold BitP
    rintro e wn ⟨rfl, h0⟩
    obtain rfl := h0.symm
    rw [HNU.out]
    go_wp2_with fail
    refine (CC.out _).mono ?_
    rw [← HE.out]
    rintro e w1 ⟨a, n, c1, rfl, hs1, hi1, b1⟩
    have HS1 := Lib.hid hs1
    have HI1 := Lib.hid hi1
    have HZ := Lib.hid X0.out.lt
    have X1 := Lib.hid (X0.out.after b1)
    have B1 := B0.trans (b1.mono B0.size)
    clear CC hs1 hi1 b1 X0 B0 HE
    obtain ⟨Rb, Rp, Re⟩ := R
    dsimp only at HS1 ⊢
    go_wp2_with (refine wpList_store_box (cells := #[.slice a n c1, .int .i64 Rp, .int .i64 Re]) rfl 81 _ _ rfl X1.out (by rfl) (by rfl) rfl (by kernel_rfl) (by simp [Value.oneCell']) ?_; intro u9 X9 st9)
    have B9 := st9.below w.heap.size w (Nat.le_refl _) B1
    exact bodyPost_ret (v := .agg #[.slice a n c1, .int .i64 Rp, .int .i64 Re]) (box_result rfl _ _ (by rfl) X9 Tryd.underlying81 rfl (by kernel_rfl)) rfl (bp_mk (r := ⟨Rb, Rp, Re⟩) (HS1.out.keepSt HI1.out st9 HZ.out) (HI1.out.mono (fun k hk => Nat.le_trans (Nat.le_of_lt HZ.out) hk)) B9)
  have n35 : c ≠ 35 := fun e => h35 (by rw [e]; rfl)
  obtain ⟨a35, b35, d35⟩ := bNe 35 35 rfl h35
  clear d35 h35
  by_cases h124 : c.toNat = 124
  case pos =>
    obtain ⟨z1, z2, z3⟩ := bEq 124 124 rfl h124
    have HE : Hid (R = nB64 s.data.toList (p + 1) 124) := Lib.hid (by rw [HR.out, if_neg hnu, if_neg n34, if_neg n35, if_pos (UInt8.toNat_inj.1 h124)])
    have CC : Hid (∀ w', Calls Tryd.prog 73 #[.string s, .int .i64 ((p : Int) + 1), .int .u8 124] w' (BPost (nB64 s.data.toList (p + 1) 124) w')) := Lib.hid (fun w' => by rw [← hpc]; exact rbase64_any 124 s (p + 1) w' hs hlt)
    clear HR h124 z3 hnu hc2 hpc
    go_enter Tryd.func52, Tryd.ntmps52
    go_upto_region 1 with fail
    change Code.wp _ _ _ _ (w.alloc (.cells #[.slice none 0 0, .int .i64 0, .int .i64 0] 81))
    generalize (w.alloc (.cells #[.slice none 0 0, .int .i64 0, .int .i64 0] 81)) = v0 at *
    go_wp2_with fail
    refine (rnumber_any c _).mono ?_
    unfold BitP
    rintro e wn ⟨rfl, h0⟩
    obtain rfl := h0.symm
    rw [HNU.out]
    go_wp2_with fail
    refine (CC.out _).mono ?_
    rw [← HE.out]
    rintro e w1 ⟨a, n, c1, rfl, hs1, hi1, b1⟩
    have HS1 := Lib.hid hs1
    have HI1 := Lib.hid hi1
    have HZ := Lib.hid X0.out.lt
    have X1 := Lib.hid (X0.out.after b1)
    have B1 := B0.trans (b1.mono B0.size)
    clear CC hs1 hi1 b1 X0 B0 HE
    obtain ⟨Rb, Rp, Re⟩ := R
    dsimp only at HS1 ⊢
    go_wp2_with (refine wpList_store_box (cells := #[.slice a n c1, .int .i64 Rp, .int .i64 Re]) rfl 81 _ _ rfl X1.out (by rfl) (by rfl) rfl (by kernel_rfl) (by simp [Value.oneCell']) ?_; intro u9 X9 st9)
    have B9 := st9.below w.heap.size w (Nat.le_refl _) B1
    exact bodyPost_ret (v := .agg #[.slice a n c1, .int .i64 Rp, .int .i64 Re]) (box_result rfl _ _ (by rfl) X9 Tryd.underlying81 rfl (by kernel_rfl)) rfl (bp_mk (r := ⟨Rb, Rp, Re⟩) (HS1.out.keepSt HI1.out st9 HZ.out) (HI1.out.mono (fun k hk => Nat.le_trans (Nat.le_of_lt HZ.out) hk)) B9)
  have n124 : c ≠ 124 := fun e => h124 (by rw [e]; rfl)
  obtain ⟨a124, b124, d124⟩ := bNe 124 124 rfl h124
  clear d124 h124
  clear hpc
  by_cases hsg : signB c = true
  case neg =>
    have HE : Hid (R = BR.err p 3) := Lib.hid (by rw [HR.out, if_neg hnu, if_neg n34, if_neg n35, if_neg n124, if_neg hsg])
    have HSG : Hid (signB c = false) := Lib.hid (by simpa using hsg)
    clear HR hnu n34 n35 n124 hsg hc2
    go_enter Tryd.func52, Tryd.ntmps52
    go_upto_region 1 with fail
    change Code.wp _ _ _ _ (w.alloc (.cells #[.slice none 0 0, .int .i64 0, .int .i64 0] 81))
    generalize (w.alloc (.cells #[.slice none 0 0, .int .i64 0, .int .i64 0] 81)) = v0 at *
    go_wp2_with fail
    refine (rnumber_any c _).mono ?_
    unfold BitP
    rintro e wn ⟨rfl, h0⟩
    obtain rfl := h0.symm
    rw [HNU.out]
    go_wp2_with fail
    refine (rsign_any c _).mono ?_
    unfold BitP
    rintro e wn ⟨rfl, h0⟩
    obtain rfl := h0.symm
    rw [HSG.out]
    go_wp2_with (refine wpList_store_box (cells := #[.slice none 0 0, .int .i64 p, .int .i64 3]) rfl 81 _ _ rfl X0.out (by rfl) (by rfl) rfl (by kernel_rfl) (by simp [Value.oneCell']) ?_; intro u9 X9 st9)
    have B9 := st9.below w.heap.size w (Nat.le_refl _) B0
    exact bodyPost_ret (v := .agg #[.slice none 0 0, .int .i64 p, .int .i64 3]) (box_result rfl _ _ (by rfl) X9 Tryd.underlying81 rfl (by kernel_rfl)) rfl (bp_err HE.out B9)
  have HSG := Lib.hid hsg
  have HRN : Hid (R = ⟨(s.data.toList.drop p).take (runN s.data.toList p - p), runN s.data.toList p, 0⟩) := Lib.hid (by rw [HR.out, if_neg hnu, if_neg n34, if_neg n35, if_neg n124, if_pos hsg, run_take]; rfl)
  clear HR hnu n34 n35 n124 hsg
  go_enter Tryd.func52, Tryd.ntmps52
  go_upto_region 1 with fail
  change Code.wp _ _ _ _ (w.alloc (.cells #[.slice none 0 0, .int .i64 0, .int .i64 0] 81))
  generalize (w.alloc (.cells #[.slice none 0 0, .int .i64 0, .int .i64 0] 81)) = v0 at *
  go_wp2_with fail
  refine (rnumber_any c _).mono ?_
  unfold BitP
  rintro e wn ⟨rfl, h0⟩
  obtain rfl := h0.symm
  rw [HNU.out]
  go_wp2_with fail
  refine (rsign_any c _).mono ?_
  unfold BitP
  rintro e wn ⟨rfl, h0⟩
  obtain rfl := h0.symm
  rw [HSG.out]
  go_wp2_with fail
  go_loopw [6] (fun r wr => ∃ k : Nat, p ≤ k ∧ k ≤ s.size ∧ Hid (runN s.data.toList k = runN s.data.toList p) ∧ r = .int .i64 k ∧ wr = v0) (fun r wr => s.size - (intOf r).toNat)
  case atStart => exact ⟨p, Nat.le_refl _, hp, Lib.hid rfl, rfl, rfl⟩
  case round =>
    obtain ⟨k, hpk, hk, hsk, rfl, rfl⟩ := hrel
    clear hc hc2 hend' hq1
    by_cases hlt2 : k < s.size
    · have hk0 : (0 : Int) ≤ k := by omega
      have hk1 : (k : Int) < s.size := by omega
      obtain ⟨x, hx, hx1, hx2⟩ := at_byte s k hlt2
      by_cases hsx : signB x = true
      case pos =>
        have HT := Lib.hid ((runN_sign (l := s.data.toList) (p := k) (by rw [HL.out]; exact hlt2) (by rw [hx2.out]; exact hsx)).symm.trans hsk.out)
        have HB := Lib.hid hsx
        clear hsx hsk hx1 hx2
        go_wp2_with fail
        refine (rsign_any x _).mono ?_
        unfold BitP
        rintro e w1 ⟨rfl, rfl⟩
        rw [HB.out]
        go_wp2_with fail
        go_roundw
        case rel => exact ⟨k + 1, by omega, by omega, HT, by go_num, trivial⟩
        case measure => simp [intOf]; omega
      have hsx' : signB x = false := by simpa using hsx
      have HT := Lib.hid ((runN_other (l := s.data.toList) (p := k) (by rw [HL.out]; exact hlt2) (by rw [hx2.out]; exact hsx')).symm.trans hsk.out)
      have HB := Lib.hid hsx'
      clear hsx hsx' hsk hx1 hx2
      have HE : Hid (R = ⟨(s.data.toList.drop p).take (k - p), k, 0⟩) := Lib.hid (by rw [HRN.out, ← HT.out])
      have t1 : (0 : Int) ≤ (p : Int) := by omega
      have t2 : (p : Int) ≤ (k : Int) := by omega
      have t3 : (k : Int) ≤ (s.size : Int) := by omega
      have t4 : p ≤ k := hpk
      have hgl := Lib.hid X0.out.lt
      obtain ⟨v8, w8, hr8, ho8, b8⟩ := conv_own wr (s.extract p k) (by simp; omega)
      obtain ⟨a8, n8, c8, rfl, sl8, in8⟩ := OwnB.parts ho8
      rw [extract_data] at sl8
      have SL8 := Lib.hid sl8
      have IN8 := Lib.hid in8
      have X8 := Lib.hid (X0.out.after b8)
      have B8 := B0.trans (b8.mono B0.size)
      clear sl8 in8 ho8 X0 B0 b8 HT HRN
      go_wp2_with fail
      refine (rsign_any x _).mono ?_
      unfold BitP
      rintro e w1 ⟨rfl, rfl⟩
      rw [HB.out]
      go_wp2_with (refine wpList_store_box (cells := #[.slice a8 n8 c8, .int .i64 k, .int .i64 0]) rfl 81 _ _ rfl X8.out (by rfl) (by rfl) rfl (by kernel_rfl) (by simp [Value.oneCell']) ?_; intro u9 X9 st9)
      have B9 := st9.below w.heap.size w (Nat.le_refl _) B8
      exact bodyPost_ret (v := .agg #[.slice a8 n8 c8, .int .i64 k, .int .i64 0]) (box_result rfl _ _ (by rfl) X9 Tryd.underlying81 rfl (by kernel_rfl)) rfl (bp_ok HE.out rfl (SL8.out.keepSt IN8.out st9 hgl.out) (IN8.out.mono (fun k hk => Nat.le_trans (Nat.le_of_lt hgl.out) hk)) B9)
    · have hk1 : ¬ (k : Int) < s.size := by omega
      have HT := Lib.hid ((runN_end (l := s.data.toList) (p := k) (by rw [HL.out]; omega)).symm.trans hsk.out)
      clear hsk
      have HE : Hid (R = ⟨(s.data.toList.drop p).take (k - p), k, 0⟩) := Lib.hid (by rw [HRN.out, ← HT.out])
      have t1 : (0 : Int) ≤ (p : Int) := by omega
      have t2 : (p : Int) ≤ (k : Int) := by omega
      have t3 : (k : Int) ≤ (s.size : Int) := by omega
      have t4 : p ≤ k := hpk
      have hgl := Lib.hid X0.out.lt
      obtain ⟨v8, w8, hr8, ho8, b8⟩ := conv_own wr (s.extract p k) (by simp; omega)
      obtain ⟨a8, n8, c8, rfl, sl8, in8⟩ := OwnB.parts ho8
      rw [extract_data] at sl8
      have SL8 := Lib.hid sl8
      have IN8 := Lib.hid in8
      have X8 := Lib.hid (X0.out.after b8)
      have B8 := B0.trans (b8.mono B0.size)
      clear sl8 in8 ho8 X0 B0 b8 HT HRN
      go_wp2_with (refine wpList_store_box (cells := #[.slice a8 n8 c8, .int .i64 k, .int .i64 0]) rfl 81 _ _ rfl X8.out (by rfl) (by rfl) rfl (by kernel_rfl) (by simp [Value.oneCell']) ?_; intro u9 X9 st9)
      have B9 := st9.below w.heap.size w (Nat.le_refl _) B8
      exact bodyPost_ret (v := .agg #[.slice a8 n8 c8, .int .i64 k, .int .i64 0]) (box_result rfl _ _ (by rfl) X9 Tryd.underlying81 rfl (by kernel_rfl)) rfl (bp_ok HE.out rfl (SL8.out.keepSt IN8.out st9 hgl.out) (IN8.out.mono (fun k hk => Nat.le_trans (Nat.le_of_lt hgl.out) hk)) B9)

theorem rp_hint {r : RV} {l1 l2 : List UInt8} {p n : Nat} (h : r = ⟨.mk false true l1 l2 [], p, n, 0⟩) {w u : World} {a1 a2 : Option Addr} {n1 c1 n2 c2 : Nat} (h1 : Sl u a1 n1 c1 l1) (h2 : Sl u a2 n2 c2 l2) (i1 : InB (fun k => w.heap.size ≤ k) a1 n1) (i2 : InB (fun k => w.heap.size ≤ k) a2 n2) (hb : Below w.heap.size w u) :
    RP (fun _ => False) r w (.returned (.agg #[.bool false, .bool true, .slice a1 n1 c1, .slice a2 n2 c2, .slice none 0 0, .int .i64 p, .int .i64 n, .int .i64 0])) u :=
  rp_ok h ⟨false, true, a1, n1, c1, a2, n2, c2, none, 0, 0⟩ (rd_hint h1 h2 (i1.mono fun k hk => .inr hk) (i2.mono fun k hk => .inr hk)) hb
theorem rp_atom {r : RV} {l2 : List UInt8} {p n : Nat} (h : r = ⟨.mk false false [] l2 [], p, n, 0⟩) {w u : World} {a2 : Option Addr} {n2 c2 : Nat} (h2 : Sl u a2 n2 c2 l2) (i2 : InB (fun k => w.heap.size ≤ k) a2 n2) (hb : Below w.heap.size w u) :
    RP (fun _ => False) r w (.returned (.agg #[.bool false, .bool false, .slice none 0 0, .slice a2 n2 c2, .slice none 0 0, .int .i64 p, .int .i64 n, .int .i64 0])) u :=
  rp_ok h ⟨false, false, none, 0, 0, a2, n2, c2, none, 0, 0⟩ (rd_atomI h2 (i2.mono fun k hk => .inr hk)) hb
set_option maxHeartbeats 16000000 in
set_option maxRecDepth 100000 in
theorem rhinted_any (s : ByteArray) (p m : Nat) (w : World) (hs : s.size ≤ 100000) (hp : p ≤ s.size) (hm : m ≤ 100000) : Calls Tryd.prog 51 #[.string s, .int .i64 p, .int .i64 m] w (RP (fun _ => False) (nHint s.data.toList p m) w) := by
  have HL : Hid (s.data.toList.length = s.size) := Lib.hid (by simp)
  obtain ⟨R, hR⟩ : ∃ R, R = nHint s.data.toList p m := ⟨_, rfl⟩
  rw [← hR]
  obtain ⟨q1, hq1⟩ : ∃ q, q = skipN s.data.toList p := ⟨_, rfl⟩
  have hq1l := skipN_le (l := s.data.toList) (p := p) (by rw [HL.out]; exact hp)
  obtain ⟨h, hh⟩ : ∃ h, h = nPlain s.data.toList q1 := ⟨_, rfl⟩
  rw [← hq1, HL.out] at hq1l
  have hhp : h.e = 0 → h.p ≤ s.size := fun he => by
    have := (nPlain_place (l := s.data.toList) (p := q1) (by rw [← hh]; exact he)).2
    rwa [← hh, HL.out] at this
  obtain ⟨q2, hq2⟩ : ∃ q, q = skipN s.data.toList h.p := ⟨_, rfl⟩
  have hq2l : h.e = 0 → h.p ≤ q2 ∧ q2 ≤ s.size := fun he => by
    have := skipN_le (l := s.data.toList) (p := h.p) (by rw [HL.out]; exact hhp he)
    rwa [← hq2, HL.out] at this
  obtain ⟨q3, hq3⟩ : ∃ q, q = skipN s.data.toList (q2 + 1) := ⟨_, rfl⟩
  obtain ⟨d, hd⟩ : ∃ d, d = nPlain s.data.toList q3 := ⟨_, rfl⟩
  have HR : Hid (R = if h.e ≠ 0 then RV.err h.p h.e else if s.size ≤ q2 then RV.err s.size 2 else if s.data.toList.getD q2 0 ≠ 93 then RV.err q2 3 else if d.e ≠ 0 then RV.err d.p d.e else ⟨.mk false true h.b d.b [], d.p, m, 0⟩) := Lib.hid (by
    rw [hR]; unfold nHint; dsimp only; rw [← hq1, ← hh, ← hq2, HL.out, ← hq3, ← hd])
  have CP1 : Hid (∀ w', Calls Tryd.prog 52 #[.string s, .int .i64 q1] w' (BPost h w')) := Lib.hid (fun w' => by rw [hh]; exact rplain_any s q1 w' hs (by omega))
  have CS1 : Hid (∀ w', Calls Tryd.prog 49 #[.string s, .int .i64 p] w' (fun e w2 => e = .returned (.int .i64 q1) ∧ w2 = w')) := Lib.hid (fun w' => by rw [hq1]; exact rskip_any s p w' (by omega) hp)
  have CS2 : Hid (h.e = 0 → ∀ w', Calls Tryd.prog 49 #[.string s, .int .i64 h.p] w' (fun e w2 => e = .returned (.int .i64 q2) ∧ w2 = w')) := Lib.hid (fun he w' => by rw [hq2]; exact rskip_any s h.p w' (by omega) (hhp he))
  have CS3 : Hid (q2 < s.size → ∀ w', Calls Tryd.prog 49 #[.string s, .int .i64 ((q2 : Int) + 1)] w' (fun e w2 => e = .returned (.int .i64 q3) ∧ w2 = w')) := Lib.hid (fun hq w' => by rw [hq3, show ((q2 : Int) + 1) = ((q2 + 1 : Nat) : Int) by omega]; exact rskip_any s (q2 + 1) w' (by omega) hq)
  have CP2 : Hid (q2 < s.size → ∀ w', Calls Tryd.prog 52 #[.string s, .int .i64 q3] w' (BPost d w')) := Lib.hid (fun hq w' => by
    have := skipN_le (l := s.data.toList) (p := q2 + 1) (by rw [HL.out]; exact hq)
    rw [← hq3, HL.out] at this
    rw [hd]; exact rplain_any s q3 w' hs this.2)
  have HQ2 := Lib.hid hq2l
  have HHP := Lib.hid hhp
  clear hhp hq2l hR hq1 hh hq2 hq3 hd hq1l
  obtain ⟨hb, hpp, he⟩ := h
  obtain ⟨db, dp, de⟩ := d
  dsimp only at HR CS2 HHP HQ2
  have B0 : Below w.heap.size w (w.alloc (.cells #[.bool false, .bool false, .slice none 0 0, .slice none 0 0, .slice none 0 0, .int .i64 0, .int .i64 0, .int .i64 0] 50)) := (Below.refl _ _).alloc (Nat.le_refl _) _
  have X0 := Lib.hid (Box.new w 50 #[.bool false, .bool false, .slice none 0 0, .slice none 0 0, .slice none 0 0, .int .i64 0, .int .i64 0, .int .i64 0])
  go_enter Tryd.func51, Tryd.ntmps51
  go_upto_region 1 with fail
  change Code.wp _ _ _ _ (w.alloc (.cells #[.bool false, .bool false, .slice none 0 0, .slice none 0 0, .slice none 0 0, .int .i64 0, .int .i64 0, .int .i64 0] 50))
  generalize (w.alloc (.cells #[.bool false, .bool false, .slice none 0 0, .slice none 0 0, .slice none 0 0, .int .i64 0, .int .i64 0, .int .i64 0] 50)) = v0 at *
  have HXL := Lib.hid X0.out.lt
  go_wp2_with fail
  refine (CS1.out _).mono ?_
  rintro e wn ⟨rfl, rfl⟩
  go_wp2_with fail
  refine (CP1.out _).mono ?_
  rintro e w1 ⟨a1, n1, c1, rfl, hs1, hi1, b1⟩
  dsimp only at hs1 ⊢
  have X1 := Lib.hid (X0.out.after b1)
  have B1 := B0.trans (b1.mono B0.size)
  have I1 := Lib.hid (hi1.mono (fun k hk => Nat.lt_of_lt_of_le HXL.out hk))
  go_upto_region 2 with (refine wpList_store_box (cells := #[.slice a1 n1 c1, .int .i64 hpp, .int .i64 he]) rfl 81 _ _ rfl (Box.new _ _ _) (by rfl) (by rfl) rfl (by kernel_rfl) (by simp [Value.oneCell']) ?_; intro u2 Z2 st2)
  have b2 : Below w1.heap.size w1 u2 := st2.below w1.heap.size w1 (Nat.le_refl _) ((Below.refl _ _).alloc (Nat.le_refl _) _)
  have X2 := Lib.hid (X1.out.after b2)
  have B2 := B1.trans (b2.mono B1.size)
  have S2 := Lib.hid (hs1.after b2)
  have Z := Lib.hid Z2
  have e0 := Z2.cell 0 rfl
  have e1 := Z2.cell 1 rfl
  have e2 := Z2.cell 2 rfl
  clear hs1 hi1 b1 CS1 CP1 X0 B0 X1 B1 st2 b2 Z2
  generalize w1.heap.size = g1 at *
  by_cases hez : he = 0
  case neg =>
    obtain ⟨z1, z2⟩ := nat_ne hez
    have HE : Hid (R = RV.err hpp he) := Lib.hid (by rw [HR.out, if_pos hez])
    clear HR
    go_wp2_with (refine wpList_store_box (cells := #[.bool false, .bool false, .slice none 0 0, .slice none 0 0, .slice none 0 0, .int .i64 hpp, .int .i64 0, .int .i64 he]) rfl 50 _ _ rfl X2.out (by rfl) (by rfl) rfl (by kernel_rfl) (by simp [Value.oneCell']) ?_; intro u9 X9 st9)
    have B9 := st9.below w.heap.size w (Nat.le_refl _) B2
    exact bodyPost_ret (v := .agg #[.bool false, .bool false, .slice none 0 0, .slice none 0 0, .slice none 0 0, .int .i64 hpp, .int .i64 0, .int .i64 he]) (box_result rfl _ _ (by rfl) X9 Tryd.underlying50 rfl (by kernel_rfl)) rfl (rp_err HE.out B9)
  subst hez
  replace HR : Hid (R = if s.size ≤ q2 then RV.err s.size 2 else if s.data.toList.getD q2 0 ≠ 93 then RV.err q2 3 else if de ≠ 0 then RV.err dp de else ⟨.mk false true hb db [], dp, m, 0⟩) := Lib.hid (by rw [HR.out, if_neg (by simp)])
  obtain ⟨hq2a, hq2b⟩ := HQ2.out rfl
  have C2 := Lib.hid (CS2.out rfl)
  have hpp6 := HHP.out rfl
  clear CS2 HQ2 HHP
  go_wp2_with fail
  refine (C2.out _).mono ?_
  rintro e wn ⟨rfl, rfl⟩
  by_cases hend : s.size ≤ q2
  case pos =>
    have hend' : (s.size : Int) ≤ (q2 : Int) := by omega
    have HE : Hid (R = RV.err s.size 2) := Lib.hid (by rw [HR.out, if_pos hend])
    clear HR
    go_wp2_with (refine wpList_store_box (cells := #[.bool false, .bool false, .slice none 0 0, .slice none 0 0, .slice none 0 0, .int .i64 s.size, .int .i64 0, .int .i64 2]) rfl 50 _ _ rfl X2.out (by rfl) (by rfl) rfl (by kernel_rfl) (by simp [Value.oneCell']) ?_; intro u9 X9 st9)
    have B9 := st9.below w.heap.size w (Nat.le_refl _) B2
    exact bodyPost_ret (v := .agg #[.bool false, .bool false, .slice none 0 0, .slice none 0 0, .slice none 0 0, .int .i64 s.size, .int .i64 0, .int .i64 2]) (box_result rfl _ _ (by rfl) X9 Tryd.underlying50 rfl (by kernel_rfl)) rfl (rp_err HE.out B9)
  have hend' : ¬ (s.size : Int) ≤ (q2 : Int) := by omega
  have hq0 : (0 : Int) ≤ (q2 : Int) := by omega
  have hq1 : (q2 : Int) < (s.size : Int) := by omega
  have hlt : q2 < s.size := by omega
  obtain ⟨c, hc, hc1, hc2⟩ := at_byte s q2 hlt
  have C3 := Lib.hid (CS3.out hlt)
  have C4 := Lib.hid (CP2.out hlt)
  clear CS3 CP2 hc2
  by_cases h93 : c.toNat = 93
  case neg =>
    obtain ⟨z1, z2, z3⟩ := bNe 93 93 rfl h93
    have hn93 : c ≠ 93 := fun e => h93 (by rw [e]; rfl)
    have HE : Hid (R = RV.err q2 3) := Lib.hid (by rw [HR.out, if_neg hend, hc1.out, if_pos hn93])
    clear HR hc1 h93 hn93 z3
    go_wp2_with (refine wpList_store_box (cells := #[.bool false, .bool false, .slice none 0 0, .slice none 0 0, .slice none 0 0, .int .i64 q2, .int .i64 0, .int .i64 3]) rfl 50 _ _ rfl X2.out (by rfl) (by rfl) rfl (by kernel_rfl) (by simp [Value.oneCell']) ?_; intro u9 X9 st9)
    have B9 := st9.below w.heap.size w (Nat.le_refl _) B2
    exact bodyPost_ret (v := .agg #[.bool false, .bool false, .slice none 0 0, .slice none 0 0, .slice none 0 0, .int .i64 q2, .int .i64 0, .int .i64 3]) (box_result rfl _ _ (by rfl) X9 Tryd.underlying50 rfl (by kernel_rfl)) rfl (rp_err HE.out B9)
  obtain ⟨z1, z2, z3⟩ := bEq 93 93 rfl h93
  replace HR : Hid (R = if de ≠ 0 then RV.err dp de else ⟨.mk false true hb db [], dp, m, 0⟩) := Lib.hid (by rw [HR.out, if_neg hend, hc1.out, if_neg (show ¬ c ≠ 93 from fun h => h (UInt8.toNat_inj.1 h93))])
  clear hc1 h93 z3
  go_wp2_with fail
  refine (C3.out _).mono ?_
  rintro e wn ⟨rfl, rfl⟩
  go_wp2_with fail
  refine (C4.out _).mono ?_
  rintro e w3 ⟨a3, n3, c3, rfl, hs3, hi3, b3⟩
  dsimp only at hs3 ⊢
  have X3 := Lib.hid (X2.out.after b3)
  have B3 := B2.trans (b3.mono B2.size)
  have S3 := Lib.hid (S2.out.after b3)
  have Z3 := Lib.hid (Z.out.after b3)
  have I3 := Lib.hid (hi3.mono (fun k hk => Nat.lt_of_lt_of_le X2.out.lt hk))
  clear e0 e1 e2 X2 B2 S2 Z C3 C4 hi3
  go_upto_region 10 with (refine wpList_store_box (cells := #[.slice a3 n3 c3, .int .i64 dp, .int .i64 de]) rfl 81 _ _ rfl (Box.new _ _ _) (by rfl) (by rfl) rfl (by kernel_rfl) (by simp [Value.oneCell']) ?_; intro u4 Z4 st4)
  have b4 : Below w3.heap.size w3 u4 := st4.below w3.heap.size w3 (Nat.le_refl _) ((Below.refl _ _).alloc (Nat.le_refl _) _)
  have X4 := Lib.hid (X3.out.after b4)
  have B4 := B3.trans (b4.mono B3.size)
  have S4 := Lib.hid (S3.out.after b4)
  have D4 := Lib.hid (hs3.after b4)
  have f0 := (Z3.out.after b4).cell 0 rfl
  have e0 := Z4.cell 0 rfl
  have e1 := Z4.cell 1 rfl
  have e2 := Z4.cell 2 rfl
  clear hs3 b3 X3 B3 S3 Z3 st4 b4 Z4
  generalize w3.heap.size = g3 at *
  by_cases hez : de = 0
  case neg =>
    obtain ⟨x1, x2⟩ := nat_ne hez
    have HE : Hid (R = RV.err dp de) := Lib.hid (by rw [HR.out, if_pos hez])
    clear HR
    go_wp2_with (refine wpList_store_box (cells := #[.bool false, .bool false, .slice none 0 0, .slice none 0 0, .slice none 0 0, .int .i64 dp, .int .i64 0, .int .i64 de]) rfl 50 _ _ rfl X4.out (by rfl) (by rfl) rfl (by kernel_rfl) (by simp [Value.oneCell']) ?_; intro u9 X9 st9)
    have B9 := st9.below w.heap.size w (Nat.le_refl _) B4
    exact bodyPost_ret (v := .agg #[.bool false, .bool false, .slice none 0 0, .slice none 0 0, .slice none 0 0, .int .i64 dp, .int .i64 0, .int .i64 de]) (box_result rfl _ _ (by rfl) X9 Tryd.underlying50 rfl (by kernel_rfl)) rfl (rp_err HE.out B9)
  subst hez
  have HE : Hid (R = ⟨.mk false true hb db [], dp, m, 0⟩) := Lib.hid (by rw [HR.out, if_neg (by simp)])
  clear HR
  go_wp2_with (refine wpList_store_box (cells := #[.bool false, .bool true, .slice a1 n1 c1, .slice a3 n3 c3, .slice none 0 0, .int .i64 dp, .int .i64 m, .int .i64 0]) rfl 50 _ _ rfl X4.out (by rfl) (by rfl) rfl (by kernel_rfl) (by simp [Value.oneCell']) ?_; intro u9 X9 st9)
  have B9 := st9.below w.heap.size w (Nat.le_refl _) B4
  exact bodyPost_ret (v := .agg #[.bool false, .bool true, .slice a1 n1 c1, .slice a3 n3 c3, .slice none 0 0, .int .i64 dp, .int .i64 m, .int .i64 0]) (box_result rfl _ _ (by rfl) X9 Tryd.underlying50 rfl (by kernel_rfl)) rfl (rp_hint HE.out (S4.out.keepSt (I1.out.mono (fun k hk => Nat.succ_le_of_lt hk)) st9 (Nat.lt_succ_self _)) (D4.out.keepSt (I3.out.mono (fun k hk => Nat.succ_le_of_lt hk)) st9 (Nat.lt_succ_self _)) (I1.out.mono (fun k hk => Nat.le_of_lt hk)) (I3.out.mono (fun k hk => Nat.le_of_lt hk)) B9)
end Go.Proofs.YtkbblhioncecmaaDoor

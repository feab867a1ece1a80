/- DateBack, DateOrder, DateClock: the walks. -/
import Derived.Test.YteekdcdjkiclhaaDateGets
import Derived.Test.YteekdcdjkiclhaaDateMath2
import Derived.WalkSpells
import Derived.StillTailTactics
import Derived.Lib.IndexBytes
namespace Go.Proofs.Yteekdcdjkiclhaa
open Go.RowKit

theorem dateV_fmt (y m d r : Nat) (h : Fld (fmtD y m d r) y m d r) : dateV (fmtD y m d r) = numD y m d r := by
  obtain ⟨h1, h2⟩ := date_fmt y m d r h
  unfold dateV; rw [if_pos h1, h2]; rfl

set_option maxHeartbeats 2000000 in
theorem DateBack_walk (n : Int) (_w0 : (Lit.int .i64 n).wf = true) (w : World) :
    Calls Try.prog 4 #[.int .i64 n] w fun e w' => e = .returned (.bool true) ∧ Below w.heap.size w w' := by
  by_cases hn : n < 0 ∨ 315569520000 ≤ n
  · rcases hn with h | h
    · go_enter Try.func4, Try.ntmps4
      go_wp2_with fail
      refine (Put_no n _ (.inl h)).mono ?_
      rintro e w1 ⟨rfl, rfl⟩
      go_wp2_with fail
      refine (awake_any _).mono ?_
      rintro e w2 ⟨rfl, hb⟩
      go_wp2_with fail
      go_ret
      exact ⟨rfl, hb⟩
    · have h0 : 0 ≤ n := by omega
      go_enter Try.func4, Try.ntmps4
      go_wp2_with fail
      refine (Put_no n _ (.inr h)).mono ?_
      rintro e w1 ⟨rfl, rfl⟩
      go_wp2_with fail
      refine (awake_any _).mono ?_
      rintro e w2 ⟨rfl, hb⟩
      go_wp2_with fail
      go_ret
      exact ⟨rfl, hb⟩
  · have h0 : 0 ≤ n := by omega
    have h1 : n < 315569520000 := by omega
    clear hn
    go_enter Try.func4, Try.ntmps4
    go_wp2_with fail
    refine (Put_yes n _ h0 h1).mono ?_
    rintro e w1 ⟨y, m, d, r, rfl, a1, a2, a3, a4, a5, a6, hnum, hb1⟩
    have hF : Fld (fmtD y m d r) y m d r := ⟨rfl, a1, a2, a3, a4, a5, a6⟩
    have HO := Lib.hid (date_fmt y m d r hF).1
    have HV := Lib.hid (show dateV (fmtD y m d r) = n by rw [dateV_fmt y m d r hF, hnum]; rfl)
    have H19 := Lib.hid (show (fmtD y m d r).length = 19 from rfl)
    obtain ⟨T, hT⟩ : ∃ T, T = fmtD y m d r := ⟨_, rfl⟩
    rw [← hT] at HO HV H19 ⊢
    clear hT hF hnum a1 a2 a3 a4 a5 a6
    obtain ⟨c, w2, hrun, hB2, hc1, hc2, hb2⟩ := conv_str w1 ⟨T.toArray⟩ (by have := H19.out; simp [ByteArray.size]; omega)
    have hS := hB2.sl c (by have := H19.out; simp [ByteArray.size] at hc1; simpa using hc1) hc2
    rw [show (ByteArray.mk T.toArray).size = T.length by simp [ByteArray.size]] at hrun
    have hS' : Sl w2 (some ⟨w1.heap.size, 0, none⟩) T.length c T := hS
    have hW2 := hb1.trans (hb2.mono hb1.size)
    clear hB2 hc1 hc2 hS
    go_wp2_with fail
    refine (refGet_any _ _ _ _ _ hS' hS'.len_le).mono ?_
    rintro e w3 ⟨rfl, hb3⟩
    have hW3 := hW2.trans (hb3.mono hW2.size)
    rw [HO.out, HV.out]
    have e1 : (n == n) = true := by simp
    clear hrun
    go_wp2_with fail
    refine (awake_any _).mono ?_
    rintro e w4 ⟨rfl, hb4⟩
    go_wp2_with fail
    go_ret
    exact ⟨rfl, hW3.trans (hb4.mono hW3.size)⟩

set_option maxHeartbeats 4000000 in
theorem DateOrder_walk (a0 : Option Addr) (len0 cap0 : Nat) (z0 : List Int) (a1 : Option Addr) (len1 cap1 : Nat) (z1 : List Int) (w : World) (w0 : IsRow .u8 w a0 len0 cap0 z0) (w1 : IsRow .u8 w a1 len1 cap1 z1) :
    Calls Try.prog 5 #[.slice a0 len0 cap0, .slice a1 len1 cap1] w fun e w' => e = .returned (.bool true) ∧ Below w.heap.size w w' := by
  obtain ⟨l0, s0⟩ := w0.sl
  obtain ⟨l1, s1⟩ := w1.sl
  clear w0 w1
  cases o0 : dateOk l0 with
  | false =>
    have q := Lib.hid o0
    clear o0
    go_enter Try.func5, Try.ntmps5
    go_wp2_with fail
    refine (get_any _ _ _ _ _ s0 s0.len_le).mono ?_
    rintro e w1 ⟨rfl, hb1⟩
    rw [q.out]
    go_wp2_with fail
    refine (get_any _ _ _ _ _ (s1.after hb1) s1.len_le).mono ?_
    rintro e w2 ⟨rfl, hb2⟩
    have hW2 := hb1.trans (hb2.mono hb1.size)
    go_wp2_with fail
    refine (awake_any _).mono ?_
    rintro e w3 ⟨rfl, hb3⟩
    go_wp2_with fail
    go_ret
    exact ⟨rfl, hW2.trans (hb3.mono hW2.size)⟩
  | true =>
    cases o1 : dateOk l1 with
    | false =>
      have q0 := Lib.hid o0
      have q := Lib.hid o1
      clear o0 o1
      go_enter Try.func5, Try.ntmps5
      go_wp2_with fail
      refine (get_any _ _ _ _ _ s0 s0.len_le).mono ?_
      rintro e w1 ⟨rfl, hb1⟩
      rw [q0.out]
      go_wp2_with fail
      refine (get_any _ _ _ _ _ (s1.after hb1) s1.len_le).mono ?_
      rintro e w2 ⟨rfl, hb2⟩
      rw [q.out]
      have hW2 := hb1.trans (hb2.mono hb1.size)
      go_wp2_with fail
      refine (awake_any _).mono ?_
      rintro e w3 ⟨rfl, hb3⟩
      go_wp2_with fail
      go_ret
      exact ⟨rfl, hW2.trans (hb3.mono hW2.size)⟩
    | true =>
      obtain ⟨y, m, d, r, hF, hv0⟩ := date_of l0 o0
      obtain ⟨y', m', d', r', hF', hv1⟩ := date_of l1 o1
      have hl0 : l0.length = 19 := by rw [hF.1]; rfl
      have hl1 : l1.length = 19 := by rw [hF'.1]; rfl
      obtain rfl : len0 = 19 := by rw [s0.1, hl0]
      obtain rfl : len1 = 19 := by rw [s1.1, hl1]
      have hbd : 0 ≤ dateV l0 ∧ dateV l0 < 315569520000 := by
        rw [hv0]
        have h1 := cum_bd (y : Nat) m
        have h2 := cum_le (y : Nat) m (by have := hF.2.2.2.1; omega)
        rw [if_neg (by have := hF.2.2.2.1; omega)] at h2
        have h3 := dby_succ (y : Nat)
        have h4 := dby_mono ((y : Nat) + 1) 10000 (by have := hF.2.1; omega)
        have h5 := dby_max
        have h6 := dby_bd (y : Nat) (by omega) (by have := hF.2.1; omega)
        obtain ⟨_, b1, b2, b3, b4, b5, b6⟩ := hF
        omega
      have hless := less_fmt l0 l1 y m d r y' m' d' r' hF hF'
      have hxy : dateV l0 = numD y m d r := hv0
      have hxy' : dateV l1 = numD y' m' d' r' := hv1
      have heq : (dateV l0 = dateV l1) ↔ l0 = l1 := by
        constructor
        · intro h
          rw [hxy, hxy'] at h
          obtain ⟨rfl, rfl, rfl, rfl⟩ := numD_inj l0 l1 y m d r y' m' d' r' hF hF' h
          rw [hF.1, hF'.1]
        · intro h; rw [h]
      rw [← hxy, ← hxy'] at hless
      have HP : Hid (∀ y2 m2 d2 r2 : Nat, y2 ≤ 9999 → 1 ≤ m2 → m2 ≤ 12 → 1 ≤ d2 → (d2 : Int) ≤ dim y2 m2 → r2 < 86400 → dateV l0 = (dby y2 + ((d2 : Int) - 1) + cum y2 m2) * 86400 + r2 → fmtD y2 m2 d2 r2 = l0) := Lib.hid (by
        intro y2 m2 d2 r2 b1 b2 b3 b4 b5 b6 hh
        have hF2 : Fld (fmtD y2 m2 d2 r2) y2 m2 d2 r2 := ⟨rfl, b1, b2, b3, b4, b5, b6⟩
        obtain ⟨rfl, rfl, rfl, rfl⟩ := numD_inj _ _ y2 m2 d2 r2 y m d r hF2 hF (by rw [← hxy, hh]; rfl)
        exact hF.1.symm)
      have q0 := Lib.hid o0
      have q1 := Lib.hid o1
      obtain ⟨X, hX⟩ : ∃ X, X = dateV l0 := ⟨_, rfl⟩
      obtain ⟨Z, hZ⟩ : ∃ Z, Z = dateV l1 := ⟨_, rfl⟩
      rw [← hX, ← hZ] at hless heq
      rw [← hX] at hbd HP
      obtain ⟨hb0, hb01⟩ := hbd
      have HX := Lib.hid hX
      have HZ := Lib.hid hZ
      have t1 : (decide (X < Z) == Op.bytesLess l0 l1) = true := by rw [hless]; simp
      have t2 : ((X == Z) == (l0 == l1)) = true := by
        rw [beq_iff_eq, Bool.eq_iff_iff, beq_iff_eq, beq_iff_eq]; exact heq
      have t3 : (l0 == l0) = true := by simp
      clear o0 o1 hF hF' hv0 hv1 hl0 hl1 hxy hxy' heq hless hX hZ
      go_enter Try.func5, Try.ntmps5
      go_wp2_with fail
      refine (get_any _ _ _ _ _ s0 s0.len_le).mono ?_
      rintro e w1 ⟨rfl, hb1⟩
      rw [q0.out, ← HX.out]
      go_wp2_with fail
      refine (get_any _ _ _ _ _ (s1.after hb1) s1.len_le).mono ?_
      rintro e w2 ⟨rfl, hb2⟩
      rw [q1.out, ← HZ.out]
      have hW2 := hb1.trans (hb2.mono hb1.size)
      go_wp2_with fail
      refine (Put_yes X _ hb0 hb01).mono ?_
      rintro e w3 ⟨y2, m2, d2, r2, rfl, b1, b2, b3, b4, b5, b6, hnum, hb3⟩
      rw [HP.out y2 m2 d2 r2 b1 b2 b3 b4 b5 b6 hnum]
      have hW3 := hW2.trans (hb3.mono hW2.size)
      have c0 := conv_sl (s0.after hW3)
      have c1 := conv_sl (s1.after hW3)
      clear b1 b2 b3 b4 b5 b6 hnum
      go_wp2_with fail
      refine (awake_any _).mono ?_
      rintro e w4 ⟨rfl, hb4⟩
      go_wp2_with fail
      go_ret
      exact ⟨rfl, hW3.trans (hb4.mono hW3.size)⟩

end Go.Proofs.Yteekdcdjkiclhaa

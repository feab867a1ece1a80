/- The document's reader of advanced forms: signs and blanks. -/
import Derived.Test.YtkbblhioncecmaaDoorNtA
namespace Go.Proofs.YtkbblhioncecmaaDoor
open Go.RowKit
set_option linter.unusedSimpArgs false
set_option linter.unusedVariables false

def BitP (b : Bool) (w : World) (e : Ending) (w' : World) : Prop := e = .returned (.bool b) ∧ w' = w
theorem beq_nat (c : UInt8) (k : Nat) (hk : k < 256) : (c == UInt8.ofNat k) = decide (c.toNat = k) := by
  rw [Bool.eq_iff_iff, beq_iff_eq, decide_eq_true_iff, ← UInt8.toNat_inj, UInt8.toNat_ofNat_of_lt' hk]
set_option maxRecDepth 100000 in
theorem rblank_any (c : UInt8) (w : World) : Calls Tryd.prog 68 #[.int .u8 (c.toNat : Int)] w (BitP (blankB c) w) := by
  unfold BitP
  by_cases h32 : c.toNat = 32
  · have HV : Hid (blankB c = true) := Lib.hid (by obtain rfl : c = 32 := UInt8.toNat_inj.1 h32; rfl)
    obtain ⟨z1, z2, z3⟩ := bEq 32 32 rfl h32
    clear h32
    go_enter Tryd.func68, Tryd.ntmps68
    go_wp2_with fail
    go_ret
    exact ⟨by rw [HV.out]; rfl, rfl⟩
  · have hc : c ≠ 32 := fun e => h32 (by rw [e]; rfl)
    obtain ⟨z1, z2, z3⟩ := bNe 32 32 rfl h32
    rcases (by omega : c.toNat < 9 ∨ (9 ≤ c.toNat ∧ c.toNat ≤ 13) ∨ 13 < c.toNat) with h | h | h
    · have HV : Hid (blankB c = false) := Lib.hid (by unfold blankB; simp [hc]; omega)
      have h' : ¬ (9 : Int) ≤ (c.toNat : Int) := by omega
      clear h32 hc h
      go_enter Tryd.func68, Tryd.ntmps68
      go_wp2_with fail
      go_ret
      exact ⟨by rw [HV.out]; rfl, rfl⟩
    · have HV : Hid (blankB c = true) := Lib.hid (by unfold blankB; simp [hc]; omega)
      have h1 : (9 : Int) ≤ (c.toNat : Int) := by omega
      have h2 : (c.toNat : Int) ≤ 13 := by omega
      clear h32 hc h
      go_enter Tryd.func68, Tryd.ntmps68
      go_wp2_with fail
      go_ret
      exact ⟨by rw [HV.out]; rfl, rfl⟩
    · have HV : Hid (blankB c = false) := Lib.hid (by unfold blankB; simp [hc]; omega)
      have h1 : (9 : Int) ≤ (c.toNat : Int) := by omega
      have h2 : ¬ (c.toNat : Int) ≤ 13 := by omega
      clear h32 hc h
      go_enter Tryd.func68, Tryd.ntmps68
      go_wp2_with fail
      go_ret
      exact ⟨by rw [HV.out]; rfl, rfl⟩

set_option maxRecDepth 100000 in
theorem rletter_any (c : UInt8) (w : World) : Calls Tryd.prog 69 #[.int .u8 (c.toNat : Int)] w (BitP (letterB c) w) := by
  unfold BitP
  rcases (by omega : c.toNat < 65 ∨ (65 ≤ c.toNat ∧ c.toNat ≤ 90) ∨ (90 < c.toNat ∧ c.toNat < 97) ∨ (97 ≤ c.toNat ∧ c.toNat ≤ 122) ∨ 122 < c.toNat) with h | h | h | h | h
  · have HV : Hid (letterB c = false) := Lib.hid (by unfold letterB; simp; omega)
    have h1 : ¬ (97 : Int) ≤ (c.toNat : Int) := by omega
    have h2 : ¬ (65 : Int) ≤ (c.toNat : Int) := by omega
    clear h
    go_enter Tryd.func69, Tryd.ntmps69
    go_wp2_with fail
    go_ret
    exact ⟨by rw [HV.out]; rfl, rfl⟩
  · have HV : Hid (letterB c = true) := Lib.hid (by unfold letterB; simp; omega)
    have h1 : ¬ (97 : Int) ≤ (c.toNat : Int) := by omega
    have h2 : (65 : Int) ≤ (c.toNat : Int) := by omega
    have h3 : (c.toNat : Int) ≤ 90 := by omega
    clear h
    go_enter Tryd.func69, Tryd.ntmps69
    go_wp2_with fail
    go_ret
    exact ⟨by rw [HV.out]; rfl, rfl⟩
  · have HV : Hid (letterB c = false) := Lib.hid (by unfold letterB; simp; omega)
    have h1 : ¬ (97 : Int) ≤ (c.toNat : Int) := by omega
    have h2 : (65 : Int) ≤ (c.toNat : Int) := by omega
    have h3 : ¬ (c.toNat : Int) ≤ 90 := by omega
    clear h
    go_enter Tryd.func69, Tryd.ntmps69
    go_wp2_with fail
    go_ret
    exact ⟨by rw [HV.out]; rfl, rfl⟩
  · have HV : Hid (letterB c = true) := Lib.hid (by unfold letterB; simp; omega)
    have h1 : (97 : Int) ≤ (c.toNat : Int) := by omega
    have h2 : (c.toNat : Int) ≤ 122 := by omega
    clear h
    go_enter Tryd.func69, Tryd.ntmps69
    go_wp2_with fail
    go_ret
    exact ⟨by rw [HV.out]; rfl, rfl⟩
  · have HV : Hid (letterB c = false) := Lib.hid (by unfold letterB; simp; omega)
    have h1 : (97 : Int) ≤ (c.toNat : Int) := by omega
    have h2 : ¬ (c.toNat : Int) ≤ 122 := by omega
    have h3 : (65 : Int) ≤ (c.toNat : Int) := by omega
    have h4 : ¬ (c.toNat : Int) ≤ 90 := by omega
    clear h
    go_enter Tryd.func69, Tryd.ntmps69
    go_wp2_with fail
    go_ret
    exact ⟨by rw [HV.out]; rfl, rfl⟩

set_option maxRecDepth 100000 in
theorem rnumber_any (c : UInt8) (w : World) : Calls Tryd.prog 60 #[.int .u8 (c.toNat : Int)] w (BitP (numB c) w) := by
  unfold BitP
  rcases (by omega : c.toNat < 48 ∨ (48 ≤ c.toNat ∧ c.toNat ≤ 57) ∨ 57 < c.toNat) with h | h | h
  · have HV : Hid (numB c = false) := Lib.hid (by unfold numB; simp; omega)
    have h1 : ¬ (48 : Int) ≤ (c.toNat : Int) := by omega
    clear h
    go_enter Tryd.func60, Tryd.ntmps60
    go_wp2_with fail
    go_ret
    exact ⟨by rw [HV.out]; rfl, rfl⟩
  · have HV : Hid (numB c = true) := Lib.hid (by unfold numB; simp; omega)
    have h1 : (48 : Int) ≤ (c.toNat : Int) := by omega
    have h2 : (c.toNat : Int) ≤ 57 := by omega
    clear h
    go_enter Tryd.func60, Tryd.ntmps60
    go_wp2_with fail
    go_ret
    exact ⟨by rw [HV.out]; rfl, rfl⟩
  · have HV : Hid (numB c = false) := Lib.hid (by unfold numB; simp; omega)
    have h1 : (48 : Int) ≤ (c.toNat : Int) := by omega
    have h2 : ¬ (c.toNat : Int) ≤ 57 := by omega
    clear h
    go_enter Tryd.func60, Tryd.ntmps60
    go_wp2_with fail
    go_ret
    exact ⟨by rw [HV.out]; rfl, rfl⟩

set_option maxHeartbeats 4000000 in
set_option maxRecDepth 100000 in
theorem rsign_any (c : UInt8) (w : World) : Calls Tryd.prog 50 #[.int .u8 (c.toNat : Int)] w (BitP (signB c) w) := by
  unfold BitP
  cases hL : letterB c with
  | true =>
    have HL := Lib.hid hL
    have HV : Hid (signB c = true) := Lib.hid (by unfold signB; simp [hL])
    clear hL
    go_enter Tryd.func50, Tryd.ntmps50
    go_wp2_with fail
    refine (rletter_any c w).mono ?_
    unfold BitP
    rintro e w1 ⟨rfl, rfl⟩
    rw [HL.out]
    go_wp2_with fail
    go_ret
    exact ⟨by rw [HV.out]; rfl, rfl⟩
  | false =>
  have HL := Lib.hid hL
  cases hM : numB c with
  | true =>
    have HM := Lib.hid hM
    have HV : Hid (signB c = true) := Lib.hid (by unfold signB; simp [hM])
    clear hL hM
    go_enter Tryd.func50, Tryd.ntmps50
    go_wp2_with fail
    refine (rletter_any c w).mono ?_
    unfold BitP
    rintro e w1 ⟨rfl, rfl⟩
    rw [HL.out]
    go_wp2_with fail
    refine (rnumber_any c _).mono ?_
    unfold BitP
    rintro e w1 ⟨rfl, rfl⟩
    rw [HM.out]
    go_wp2_with fail
    go_ret
    exact ⟨by rw [HV.out]; rfl, rfl⟩
  | false =>
  have HM := Lib.hid hM
  by_cases h46 : c.toNat = 46
  · have HV : Hid (signB c = true) := Lib.hid (by obtain rfl : c = 46 := UInt8.toNat_inj.1 h46; rfl)
    obtain ⟨z1, z2, z3⟩ := bEq 46 46 rfl h46
    clear hL hM h46 z3
    go_enter Tryd.func50, Tryd.ntmps50
    go_wp2_with fail
    refine (rletter_any c w).mono ?_
    unfold BitP
    rintro e w1 ⟨rfl, rfl⟩
    rw [HL.out]
    go_wp2_with fail
    refine (rnumber_any c _).mono ?_
    unfold BitP
    rintro e w1 ⟨rfl, rfl⟩
    rw [HM.out]
    go_wp2_with fail
    go_ret
    exact ⟨by rw [HV.out]; rfl, rfl⟩
  obtain ⟨y46, yy46, yyy46⟩ := bNe 46 46 rfl h46
  have n46 : c ≠ 46 := fun e => h46 (by rw [e]; rfl)
  clear yyy46
  by_cases h47 : c.toNat = 47
  · have HV : Hid (signB c = true) := Lib.hid (by obtain rfl : c = 47 := UInt8.toNat_inj.1 h47; rfl)
    obtain ⟨z1, z2, z3⟩ := bEq 47 47 rfl h47
    clear hL hM h47 z3
    go_enter Tryd.func50, Tryd.ntmps50
    go_wp2_with fail
    refine (rletter_any c w).mono ?_
    unfold BitP
    rintro e w1 ⟨rfl, rfl⟩
    rw [HL.out]
    go_wp2_with fail
    refine (rnumber_any c _).mono ?_
    unfold BitP
    rintro e w1 ⟨rfl, rfl⟩
    rw [HM.out]
    go_wp2_with fail
    go_ret
    exact ⟨by rw [HV.out]; rfl, rfl⟩
  obtain ⟨y47, yy47, yyy47⟩ := bNe 47 47 rfl h47
  have n47 : c ≠ 47 := fun e => h47 (by rw [e]; rfl)
  clear yyy47
  by_cases h95 : c.toNat = 95
  · have HV : Hid (signB c = true) := Lib.hid (by obtain rfl : c = 95 := UInt8.toNat_inj.1 h95; rfl)
    obtain ⟨z1, z2, z3⟩ := bEq 95 95 rfl h95
    clear hL hM h95 z3
    go_enter Tryd.func50, Tryd.ntmps50
    go_wp2_with fail
    refine (rletter_any c w).mono ?_
    unfold BitP
    rintro e w1 ⟨rfl, rfl⟩
    rw [HL.out]
    go_wp2_with fail
    refine (rnumber_any c _).mono ?_
    unfold BitP
    rintro e w1 ⟨rfl, rfl⟩
    rw [HM.out]
    go_wp2_with fail
    go_ret
    exact ⟨by rw [HV.out]; rfl, rfl⟩
  obtain ⟨y95, yy95, yyy95⟩ := bNe 95 95 rfl h95
  have n95 : c ≠ 95 := fun e => h95 (by rw [e]; rfl)
  clear yyy95
  by_cases h58 : c.toNat = 58
  · have HV : Hid (signB c = true) := Lib.hid (by obtain rfl : c = 58 := UInt8.toNat_inj.1 h58; rfl)
    obtain ⟨z1, z2, z3⟩ := bEq 58 58 rfl h58
    clear hL hM h58 z3
    go_enter Tryd.func50, Tryd.ntmps50
    go_wp2_with fail
    refine (rletter_any c w).mono ?_
    unfold BitP
    rintro e w1 ⟨rfl, rfl⟩
    rw [HL.out]
    go_wp2_with fail
    refine (rnumber_any c _).mono ?_
    unfold BitP
    rintro e w1 ⟨rfl, rfl⟩
    rw [HM.out]
    go_wp2_with fail
    go_ret
    exact ⟨by rw [HV.out]; rfl, rfl⟩
  obtain ⟨y58, yy58, yyy58⟩ := bNe 58 58 rfl h58
  have n58 : c ≠ 58 := fun e => h58 (by rw [e]; rfl)
  clear yyy58
  by_cases h42 : c.toNat = 42
  · have HV : Hid (signB c = true) := Lib.hid (by obtain rfl : c = 42 := UInt8.toNat_inj.1 h42; rfl)
    obtain ⟨z1, z2, z3⟩ := bEq 42 42 rfl h42
    clear hL hM h42 z3
    go_enter Tryd.func50, Tryd.ntmps50
    go_wp2_with fail
    refine (rletter_any c w).mono ?_
    unfold BitP
    rintro e w1 ⟨rfl, rfl⟩
    rw [HL.out]
    go_wp2_with fail
    refine (rnumber_any c _).mono ?_
    unfold BitP
    rintro e w1 ⟨rfl, rfl⟩
    rw [HM.out]
    go_wp2_with fail
    go_ret
    exact ⟨by rw [HV.out]; rfl, rfl⟩
  obtain ⟨y42, yy42, yyy42⟩ := bNe 42 42 rfl h42
  have n42 : c ≠ 42 := fun e => h42 (by rw [e]; rfl)
  clear yyy42
  by_cases h43 : c.toNat = 43
  · have HV : Hid (signB c = true) := Lib.hid (by obtain rfl : c = 43 := UInt8.toNat_inj.1 h43; rfl)
    obtain ⟨z1, z2, z3⟩ := bEq 43 43 rfl h43
    clear hL hM h43 z3
    go_enter Tryd.func50, Tryd.ntmps50
    go_wp2_with fail
    refine (rletter_any c w).mono ?_
    unfold BitP
    rintro e w1 ⟨rfl, rfl⟩
    rw [HL.out]
    go_wp2_with fail
    refine (rnumber_any c _).mono ?_
    unfold BitP
    rintro e w1 ⟨rfl, rfl⟩
    rw [HM.out]
    go_wp2_with fail
    go_ret
    exact ⟨by rw [HV.out]; rfl, rfl⟩
  obtain ⟨y43, yy43, yyy43⟩ := bNe 43 43 rfl h43
  have n43 : c ≠ 43 := fun e => h43 (by rw [e]; rfl)
  clear yyy43
  by_cases h61 : c.toNat = 61
  · have HV : Hid (signB c = true) := Lib.hid (by obtain rfl : c = 61 := UInt8.toNat_inj.1 h61; rfl)
    obtain ⟨z1, z2, z3⟩ := bEq 61 61 rfl h61
    clear hL hM h61 z3
    go_enter Tryd.func50, Tryd.ntmps50
    go_wp2_with fail
    refine (rletter_any c w).mono ?_
    unfold BitP
    rintro e w1 ⟨rfl, rfl⟩
    rw [HL.out]
    go_wp2_with fail
    refine (rnumber_any c _).mono ?_
    unfold BitP
    rintro e w1 ⟨rfl, rfl⟩
    rw [HM.out]
    go_wp2_with fail
    go_ret
    exact ⟨by rw [HV.out]; rfl, rfl⟩
  obtain ⟨y61, yy61, yyy61⟩ := bNe 61 61 rfl h61
  have n61 : c ≠ 61 := fun e => h61 (by rw [e]; rfl)
  clear yyy61
  by_cases h45 : c.toNat = 45
  · have HV : Hid (signB c = true) := Lib.hid (by obtain rfl : c = 45 := UInt8.toNat_inj.1 h45; rfl)
    obtain ⟨z1, z2, z3⟩ := bEq 45 45 rfl h45
    clear hL hM h45 z3
    go_enter Tryd.func50, Tryd.ntmps50
    go_wp2_with fail
    refine (rletter_any c w).mono ?_
    unfold BitP
    rintro e w1 ⟨rfl, rfl⟩
    rw [HL.out]
    go_wp2_with fail
    refine (rnumber_any c _).mono ?_
    unfold BitP
    rintro e w1 ⟨rfl, rfl⟩
    rw [HM.out]
    go_wp2_with fail
    go_ret
    exact ⟨by rw [HV.out]; rfl, rfl⟩
  obtain ⟨y45, yy45, yyy45⟩ := bNe 45 45 rfl h45
  have n45 : c ≠ 45 := fun e => h45 (by rw [e]; rfl)
  clear yyy45
  have HV : Hid (signB c = false) := Lib.hid (by unfold signB; simp [hL, hM, n46, n47, n95, n58, n42, n43, n61, n45])
  clear hL hM n46 n47 n95 n58 n42 n43 n61 n45 h46 h47 h95 h58 h42 h43 h61 h45
  go_enter Tryd.func50, Tryd.ntmps50
  go_wp2_with fail
  refine (rletter_any c w).mono ?_
  unfold BitP
  rintro e w1 ⟨rfl, rfl⟩
  rw [HL.out]
  go_wp2_with fail
  refine (rnumber_any c _).mono ?_
  unfold BitP
  rintro e w1 ⟨rfl, rfl⟩
  rw [HM.out]
  go_wp2_with fail
  go_ret
  exact ⟨by rw [HV.out]; rfl, rfl⟩

/-- the byte at a place of a text, in the walk's words -/
theorem at_byte (s : ByteArray) (p : Nat) (h : p < s.size) : ∃ c : UInt8, s[p] = c ∧ Hid (s.data.toList.getD p 0 = c) ∧ Hid (s.data.toList[p]'(by simpa using h) = c) :=
  ⟨_, rfl, Lib.hid (getD_byte s p h).symm, Lib.hid rfl⟩
set_option maxHeartbeats 4000000 in
set_option maxRecDepth 100000 in
theorem rskip_any (s : ByteArray) (p : Nat) (w : World) (hs : s.size ≤ 1000000) (hp : p ≤ s.size) : Calls Tryd.prog 49 #[.string s, .int .i64 p] w (fun e w' => e = .returned (.int .i64 (skipN s.data.toList p)) ∧ w' = w) := by
  go_enter Tryd.func49, Tryd.ntmps49
  go_wp2_with fail
  go_loopw [1] (fun r wr => ∃ k : Nat, k ≤ s.size ∧ Hid (skipN s.data.toList k = skipN s.data.toList p) ∧ r = .int .i64 k ∧ wr = w) (fun r wr => s.size - (intOf r).toNat)
  case atStart => exact ⟨p, hp, Lib.hid rfl, rfl, rfl⟩
  case round =>
    obtain ⟨k, hk, hsk, rfl, rfl⟩ := hrel
    have hl : s.data.toList.length = s.size := by simp
    by_cases hlt : k < s.size
    · have hk0 : (0 : Int) ≤ k := by omega
      have hk1 : (k : Int) < s.size := by omega
      obtain ⟨c, hc, hc1, hc2⟩ := at_byte s k hlt
      cases hbb : blankB c with
      | true =>
        have HT := Lib.hid ((skipN_blank (l := s.data.toList) (p := k) (by omega) (by rw [hc2.out]; exact hbb)).symm.trans hsk.out)
        have HB := Lib.hid hbb
        clear hbb hsk
        go_wp2_with fail
        refine (rblank_any c _).mono ?_
        unfold BitP
        rintro e w1 ⟨rfl, rfl⟩
        rw [HB.out]
        go_wp2_with fail
        go_roundw
        case rel => exact ⟨k + 1, by omega, HT, by go_num, trivial⟩
        case measure => simp [intOf]; omega
      | false =>
        have HT := Lib.hid ((skipN_other (l := s.data.toList) (p := k) (by omega) (by rw [hc2.out]; exact hbb)).symm.trans hsk.out)
        have HB := Lib.hid hbb
        clear hbb hsk
        go_wp2_with fail
        refine (rblank_any c _).mono ?_
        unfold BitP
        rintro e w1 ⟨rfl, rfl⟩
        rw [HB.out]
        go_wp2_with fail
        go_ret
        exact ⟨by rw [← HT.out]; rfl, rfl⟩
    · have HT := Lib.hid ((skipN_end (l := s.data.toList) (p := k) (by omega)).symm.trans hsk.out)
      have hk1 : ¬ (k : Int) < s.size := by omega
      clear hsk
      go_wp2_with fail
      go_ret
      exact ⟨by rw [← HT.out]; rfl, rfl⟩
end Go.Proofs.YtkbblhioncecmaaDoor

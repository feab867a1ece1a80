/- Notation: the program's plain, with what it leaves alone. -/
import Derived.Test.YtkbblhioncecmaaDoorNtX
namespace Go.Proofs.YtkbblhioncecmaaDoor
open Go.RowKit
set_option linter.unusedVariables false
set_option linter.unusedSimpArgs false

theorem strKB (B b : Nat) (l : List UInt8) (s : ByteArray) (m : List UInt8) (hm : s.data.toList = m) (w : World) (h : Bl B b l w) (hlen : l.length + m.length ≤ 140737488355328) (hBw : B ≤ w.heap.size) :
    Calls Tryd.prog 59 #[.pointer (some ⟨b, 0, none⟩), .string s] w (RetK B b (.tuple #[.int .i64 m.length, .nilIface]) (l ++ m) w) := by
  obtain ⟨d⟩ := s
  obtain rfl : d.toList = m := hm
  have := stringK B b l d.toList w h hlen hBw
  rwa [Array.toArray_toList] at this
set_option maxHeartbeats 4000000 in
set_option maxRecDepth 100000 in
theorem plainK (B b : Nat) (acc : List UInt8) (a : Option Addr) (n c : Nat) (l : List UInt8) (w : World) (h : Bl B b acc w) (hs : ∀ w', Below B w w' → Sl w' a n c l) (hla : acc.length ≤ 1000000000) (hll : n ≤ 1000000) (hBw : B ≤ w.heap.size) :
    Calls Tryd.prog 57 #[.pointer (some ⟨b, 0, none⟩), .slice a n c] w (RetK B b (.tuple #[]) (acc ++ plainL l) w) := by
  have HB := Lib.hid h
  have HL := Lib.hid (hs w (Below.refl _ _)).1
  have CT := Lib.hid (token_any a n c l w (hs w (Below.refl _ _)))
  have CC := Lib.hid (containsFunc_any 82 _ plain1_tests a n c l w (hs w (Below.refl _ _)))
  have CQ := Lib.hid (quoteK B b acc a n c l w h hs hla (by omega) hBw)
  have CW := Lib.hid (writeK B b acc a n c l w h hs (by omega) hBw)
  have CH := Lib.hid (hex_any a n c l w (hs w (Below.refl _ _)) (by have := HL.out; omega))
  have CB := Lib.hid (base64_any a n c l w (hs w (Below.refl _ _)) (by have := HL.out; omega))
  have HP : Hid (plainL l = if tokB l then l else if l.any seenB then (if l.length ≤ 16 then [35] ++ hexL l ++ [35] else [124] ++ b64 l ++ [124]) else quoteL l) := Lib.hid rfl
  have HHL := Lib.hid (hexL_len l)
  have HLT := Lib.hid h.lt
  clear hs h
  generalize tokB l = tk at *
  generalize l.any seenB = sn at *
  go_enter Tryd.func57, Tryd.ntmps57
  go_wp2_with fail
  refine CT.out.mono ?_
  rintro e w1 ⟨rfl, rfl⟩
  clear CT
  cases tk with
  | true =>
    go_wp2_with fail
    refine CW.out.mono ?_
    rintro e w2 ⟨rfl, h2⟩
    have H2 := Lib.hid h2
    clear h2
    go_wp2_with fail
    exact bodyPost_ret (results_none rfl _ _ _) rfl ⟨rfl, by rw [HP.out]; exact H2.out⟩
  | false =>
    go_wp2_with fail
    refine CC.out.mono ?_
    rintro e w2 ⟨rfl, rfl⟩
    clear CC
    cases sn with
    | false =>
      go_wp2_with fail
      refine CQ.out.mono ?_
      rintro e w2 ⟨rfl, h2⟩
      have H2 := Lib.hid h2
      clear h2
      go_wp2_with fail
      exact bodyPost_ret (results_none rfl _ _ _) rfl ⟨rfl, by rw [HP.out]; exact H2.out⟩
    | true =>
      by_cases h16 : n ≤ 16
      · have h16i : (n : Int) ≤ 16 := by omega
        go_wp2_with fail
        refine CH.out.mono ?_
        rintro e w3 ⟨rfl, b3⟩
        have HB3 := Lib.hid (HB.out.after b3)
        have K3 := Lib.hid (kept_below HLT.out b3)
        have B3 := Lib.hid (b3.mono hBw)
        have HZ := Lib.hid (Nat.le_trans hBw b3.size)
        have HZ3 := Lib.hid b3.size
        have h16l : l.length ≤ 16 := by have := HL.out; omega
        have HP2 : Hid (plainL l = [35] ++ hexL l ++ [35]) := Lib.hid (by rw [HP.out]; simp [h16l])
        have hxl : (hexL l).length ≤ 2000000 := by have := HHL.out; omega
        clear b3 HB CH CB CQ CW
        go_wp2_with fail
        refine (strKB B b acc _ ([35] ++ hexL l ++ [35]) (by simp [ByteArray.data_append]) _ HB3.out (by have := HHL.out; simp only [List.length_append, List.length_cons, List.length_nil]; omega) HZ.out).mono ?_
        rintro e w4 ⟨rfl, h4, b4, k4⟩
        have B4 := Lib.hid (B3.out.trans b4)
        have K4 := Lib.hid (K3.out.trans k4 HZ3.out)
        rw [← HP2.out] at h4
        clear HP HP2 HHL b4 HB3 k4
        go_wp2_with fail
        exact bodyPost_ret (results_none rfl _ _ _) rfl ⟨rfl, h4, B4.out, K4.out⟩
      · have h16i : ¬ (n : Int) ≤ 16 := by omega
        go_wp2_with fail
        refine CB.out.mono ?_
        rintro e w3 ⟨rfl, b3⟩
        have HB3 := Lib.hid (HB.out.after b3)
        have K3 := Lib.hid (kept_below HLT.out b3)
        have B3 := Lib.hid (b3.mono hBw)
        have HZ := Lib.hid (Nat.le_trans hBw b3.size)
        have HZ3 := Lib.hid b3.size
        have h16l : ¬ l.length ≤ 16 := by have := HL.out; omega
        have HP2 : Hid (plainL l = [124] ++ b64 l ++ [124]) := Lib.hid (by rw [HP.out]; simp [h16l])
        have HBL := Lib.hid (b64_len l)
        have hxl : (b64 l).length ≤ 3000000 := by have := HBL.out; have := HL.out; omega
        clear b3 HB CH CB CQ CW
        go_wp2_with fail
        refine (strKB B b acc _ ([124] ++ b64 l ++ [124]) (by simp [ByteArray.data_append]) _ HB3.out (by have := HBL.out; have := HL.out; simp only [List.length_append, List.length_cons, List.length_nil]; omega) HZ.out).mono ?_
        rintro e w4 ⟨rfl, h4, b4, k4⟩
        have B4 := Lib.hid (B3.out.trans b4)
        have K4 := Lib.hid (K3.out.trans k4 HZ3.out)
        rw [← HP2.out] at h4
        clear HP HP2 HHL b4 HB3 k4
        go_wp2_with fail
        exact bodyPost_ret (results_none rfl _ _ _) rfl ⟨rfl, h4, B4.out, K4.out⟩
end Go.Proofs.YtkbblhioncecmaaDoor

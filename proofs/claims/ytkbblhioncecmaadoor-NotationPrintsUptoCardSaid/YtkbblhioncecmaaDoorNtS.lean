/- Notation: the program's plain. -/
import Derived.Test.YtkbblhioncecmaaDoorNtR
namespace Go.Proofs.YtkbblhioncecmaaDoor
open Go.RowKit
set_option linter.unusedVariables false
set_option linter.unusedSimpArgs false

def plainL (l : List UInt8) : List UInt8 := if tokB l then l else if l.any seenB then (if l.length ≤ 16 then [35] ++ hexL l ++ [35] else [124] ++ b64 l ++ [124]) else quoteL l
theorem str_bc (s : ByteArray) : Lib.strCells s = Lib.byteCells s.data.toList := by
  unfold Lib.strCells Lib.byteCells
  rfl
theorem strB (B b : Nat) (l : List UInt8) (s : ByteArray) (m : List UInt8) (hm : s.data.toList = m) (w : World) (h : Lib.IsBuilder 61 5 B b (Lib.byteCells l) w) (hlen : l.length + m.length ≤ 140737488355328) (hBw : B ≤ w.heap.size) :
    Calls Tryd.prog 59 #[.pointer (some ⟨b, 0, none⟩), .string s] w fun e w' => e = .returned (.tuple #[.int .i64 s.size, .nilIface]) ∧ Lib.IsBuilder 61 5 B b (Lib.byteCells (l ++ m)) w' ∧ Below B w w' := by
  subst hm
  have := bldString B b (Lib.byteCells l) s w h (by rw [bc_len]; simpa using hlen) hBw
  rwa [str_bc, show Lib.byteCells l ++ Lib.byteCells s.data.toList = Lib.byteCells (l ++ s.data.toList) from by simp [Lib.byteCells]] at this
theorem bldAt_after2 {T e : TypeId} {B b : Nat} {p : Value} {bs : List Value} {W W' : World} (h : Lib.BuilderAt T e B b p bs W) (hb : Below W.heap.size W W') : Lib.BuilderAt T e B b p bs W' := by
  have hlt := h.lt
  obtain ⟨hB, v, hv, hown, hne⟩ := h
  exact ⟨hB, v, (hb.block b hlt).trans hv, hown.kept (row := none) ⟨hb.os, hb.tape, hb.output, hb.size, fun k hk _ => hb.block k hk⟩ (Classical.em _), hne⟩
theorem bld_after2 {T e : TypeId} {B b : Nat} {bs : List Value} {W W' : World} (h : Lib.IsBuilder T e B b bs W) (hb : Below W.heap.size W W') : Lib.IsBuilder T e B b bs W' :=
  h.elim (fun x => .inl (bldAt_after2 x hb)) (fun x => .inr (bldAt_after2 x hb))
set_option maxHeartbeats 4000000 in
set_option maxRecDepth 100000 in
theorem plainP_any (B b : Nat) (acc : List UInt8) (a : Option Addr) (n c : Nat) (l : List UInt8) (w : World) (h : Lib.IsBuilder 61 5 B b (Lib.byteCells acc) w) (hs : ∀ w', Below B w w' → Sl w' a n c l) (hla : acc.length ≤ 1000000000) (hll : n ≤ 1000000) (hBw : B ≤ w.heap.size) :
    Calls Tryd.prog 57 #[.pointer (some ⟨b, 0, none⟩), .slice a n c] w (RetW B b (acc ++ plainL l) w) := by
  have HS := Lib.hid hs
  have HB := Lib.hid h
  have HL := Lib.hid (hs w (Below.refl _ _)).1
  have CT := Lib.hid (token_any a n c l w (hs w (Below.refl _ _)))
  have CC := Lib.hid (containsFunc_any 82 _ plain1_tests a n c l w (hs w (Below.refl _ _)))
  have CQ := Lib.hid (quote_any B b acc a n c l w h hs hla (by omega) hBw)
  have CW := Lib.hid (bldWrite B b acc a n c l w h hs (by omega) hBw)
  have CH := Lib.hid (hex_any a n c l w (hs w (Below.refl _ _)) (by have := HL.out; omega))
  have CB := Lib.hid (base64_any a n c l w (hs w (Below.refl _ _)) (by have := HL.out; omega))
  have HP : Hid (plainL l = if tokB l then l else if l.any seenB then (if l.length ≤ 16 then [35] ++ hexL l ++ [35] else [124] ++ b64 l ++ [124]) else quoteL l) := Lib.hid rfl
  have HHL := Lib.hid (hexL_len l)
  clear hs h
  generalize tokB l = tk at *
  generalize l.any seenB = sn at *
  go_enter Tryd.func57, Tryd.ntmps57
  go_wp2_with fail
  refine CT.out.mono ?_
  rintro e w1 ⟨rfl, rfl⟩
  clear CT
  cases tk with
  | true =>
    go_wp2_with fail
    refine CW.out.mono ?_
    rintro e w2 ⟨rfl, h2, b2⟩
    go_wp2_with fail
    exact bodyPost_ret (results_none rfl _ _ _) rfl ⟨rfl, by rw [HP.out]; exact h2, b2⟩
  | false =>
    go_wp2_with fail
    refine CC.out.mono ?_
    rintro e w2 ⟨rfl, rfl⟩
    clear CC
    cases sn with
    | false =>
      go_wp2_with fail
      refine CQ.out.mono ?_
      rintro e w2 ⟨rfl, h2, b2⟩
      go_wp2_with fail
      exact bodyPost_ret (results_none rfl _ _ _) rfl ⟨rfl, by rw [HP.out]; exact h2, b2⟩
    | true =>
      by_cases h16 : n ≤ 16
      · have h16i : (n : Int) ≤ 16 := by omega
        go_wp2_with fail
        refine CH.out.mono ?_
        rintro e w3 ⟨rfl, b3⟩
        have HB3 := Lib.hid (bld_after2 HB.out b3)
        have B3 := Lib.hid (b3.mono hBw)
        have HZ := Lib.hid (Nat.le_trans hBw b3.size)
        have h16l : l.length ≤ 16 := by have := HL.out; omega
        have HP2 : Hid (plainL l = [35] ++ hexL l ++ [35]) := Lib.hid (by rw [HP.out]; simp [h16l])
        have hxl : (hexL l).length ≤ 2000000 := by have := HHL.out; omega
        clear b3 HB CH CB CQ CW
        go_wp2_with fail
        refine (strB B b acc _ ([35] ++ hexL l ++ [35]) (by simp [ByteArray.data_append]) _ HB3.out (by have := HHL.out; simp only [List.length_append, List.length_cons, List.length_nil]; omega) HZ.out).mono ?_
        rintro e w4 ⟨rfl, h4, b4⟩
        have B4 := B3.out.trans b4
        rw [← HP2.out] at h4
        clear HP HP2 HHL b4 HB3
        go_wp2_with fail
        exact bodyPost_ret (results_none rfl _ _ _) rfl ⟨rfl, h4, B4⟩
      · have h16i : ¬ (n : Int) ≤ 16 := by omega
        go_wp2_with fail
        refine CB.out.mono ?_
        rintro e w3 ⟨rfl, b3⟩
        have HB3 := Lib.hid (bld_after2 HB.out b3)
        have B3 := Lib.hid (b3.mono hBw)
        have HZ := Lib.hid (Nat.le_trans hBw b3.size)
        have h16l : ¬ l.length ≤ 16 := by have := HL.out; omega
        have HP2 : Hid (plainL l = [124] ++ b64 l ++ [124]) := Lib.hid (by rw [HP.out]; simp [h16l])
        have HBL := Lib.hid (b64_len l)
        have hxl : (b64 l).length ≤ 3000000 := by have := HBL.out; have := HL.out; omega
        clear b3 HB CH CB CQ CW
        go_wp2_with fail
        refine (strB B b acc _ ([124] ++ b64 l ++ [124]) (by simp [ByteArray.data_append]) _ HB3.out (by have := HBL.out; have := HL.out; simp only [List.length_append, List.length_cons, List.length_nil]; omega) HZ.out).mono ?_
        rintro e w4 ⟨rfl, h4, b4⟩
        have B4 := B3.out.trans b4
        rw [← HP2.out] at h4
        clear HP HP2 HHL b4 HB3
        go_wp2_with fail
        exact bodyPost_ret (results_none rfl _ _ _) rfl ⟨rfl, h4, B4⟩
end Go.Proofs.YtkbblhioncecmaaDoor

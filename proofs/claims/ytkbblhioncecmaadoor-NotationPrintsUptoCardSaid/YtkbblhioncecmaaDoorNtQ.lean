/- Notation: the program's printers: bytes written to a builder, tests of bytes. -/
import Derived.Test.YtkbblhioncecmaaDoorNtK
namespace Go.Proofs.YtkbblhioncecmaaDoor
open Go.RowKit
set_option linter.unusedVariables false
set_option linter.unusedSimpArgs false

theorem bldWrite (B b : Nat) (l : List UInt8) (a : Option Addr) (m c : Nat) (l2 : List UInt8) (w : World) (h : Lib.IsBuilder 61 5 B b (Lib.byteCells l) w) (hs : ∀ w', Below B w w' → Sl w' a m c l2) (hlen : l.length + m ≤ 140737488355328) (hBw : B ≤ w.heap.size) :
    Calls Tryd.prog 80 #[.pointer (some ⟨b, 0, none⟩), .slice a m c] w fun e w' => e = .returned (.tuple #[.int .i64 m, .nilIface]) ∧ Lib.IsBuilder 61 5 B b (Lib.byteCells (l ++ l2)) w' ∧ Below B w w' := by
  have HSL := Lib.hid hs
  have hml : m = l2.length := (hs w (Below.refl _ _)).1
  have HML := Lib.hid hml
  clear hs hml
  obtain ⟨i0, hi, hz0, hz1, hz2⟩ := info_parts bldInfo5
  go_enter Tryd.func80, Tryd.ntmps80
  go_wp2_with (go_at_call 78; refine (copyCheck B b _ _ h).mono ?_)
  rintro e w1 ⟨rfl, h1, hb1⟩
  obtain ⟨hB, v, hbk, hown, hne⟩ := h1
  have c0 : w1.cell? ⟨b, 0, none⟩ = some (.pointer (some ⟨b, 0, none⟩)) := by rw [Lib.cell_of_heap hbk]; rfl
  have c1 : w1.cell? ⟨b, 1, none⟩ = some v := by rw [Lib.cell_of_heap hbk]; rfl
  have HL1 : (Lib.byteCells l).length = l.length := by simp [Lib.byteCells]
  rw [HL1] at hown
  go_wp2_with (at_builtin; refine wpList_append_sl rfl _ _ 23 rfl B 5 i0 Tryd.underlying23 hi hz0 hz1 hz2 v _ l rfl hown a m c l2 rfl (HSL.out w1 hb1) hlen ?c5 ?_)
  case c5 => have := hb1.size; omega
  intro v' w2 hown' hgrow
  have hlt : b < w1.heap.size := by
    rcases Nat.lt_or_ge b w1.heap.size with h' | h'
    · exact h'
    · simp [Array.getElem?_eq_none h'] at hbk
  have hb2 : w2.heap[b]? = some (.cells #[.pointer (some ⟨b, 0, none⟩), v] 61 (0, 0)) := by
    rw [hgrow.block b hlt (fun e => hne e.symm)]
    exact hbk
  have d0 : w2.cell? ⟨b, 0, none⟩ = some (.pointer (some ⟨b, 0, none⟩)) := by rw [Lib.cell_of_heap hb2]; rfl
  have d1 : w2.cell? ⟨b, 1, none⟩ = some v := by rw [Lib.cell_of_heap hb2]; rfl
  have f1 : w2.frozen? ⟨b, 1, none⟩ = false := Lib.frozen_of_heap hb2 1
  obtain ⟨ao, n', cap, rfl⟩ : ∃ ao n' cap, v' = .slice ao n' cap := by
    rcases hown'.2 with ⟨hv, _⟩ | ⟨g, cap, cur, hv, _⟩
    · exact ⟨_, _, _, hv⟩
    · exact ⟨_, _, _, hv⟩
  go_wp2
  go_ret2
  refine ⟨rfl, .inr ?_, ?_⟩
  · exact Lib.BuilderAt.put (T := 61) (e := 5) hB hb2 (bs' := Lib.byteCells (l ++ l2)) (by simpa [Lib.byteCells, HML.out] using hown') (by decide)
  · exact (hb1.grown hgrow (by have := hb1.size; omega) (fun k hk => (hown.lt k hk).1)).setCell (p := ⟨b, 1, none⟩) hB _
theorem token1_any (c : UInt8) (w : World) : Calls Tryd.prog 98 #[.int .u8 (c.toNat : Int)] w fun e w' => e = .returned (.bool (!signB c)) ∧ w' = w := by
  have h1 := isIn_sign ⟨c.toNat, c.toNat_lt⟩
  rw [byte_fin] at h1
  have H1 := Lib.hid h1
  clear h1
  go_enter Tryd.func98, Tryd.ntmps98
  go_wp2_with fail
  refine (is_any _ c _).mono ?_
  rintro e w1 ⟨rfl, rfl⟩
  generalize hb : isIn _ c = bb
  obtain rfl : bb = signB c := hb.symm.trans H1.out
  clear hb H1
  go_wp2_with fail
  go_ret
  exact ⟨rfl, rfl⟩
def seenB (c : UInt8) : Bool := decide (c.toNat < 32) || decide (126 < c.toNat)
theorem plain1_any (c : UInt8) (w : World) : Calls Tryd.prog 82 #[.int .u8 (c.toNat : Int)] w fun e w' => e = .returned (.bool (seenB c)) ∧ w' = w := by
  unfold seenB
  generalize c.toNat = n
  go_enter Tryd.func82, Tryd.ntmps82
  by_cases h1 : n < 32
  · have h1i : (n : Int) < 32 := by omega
    go_wp2_with fail
    go_ret
    exact ⟨by simp [h1], rfl⟩
  · have h1i : ¬ (n : Int) < 32 := by omega
    have h2i : (32 : Int) ≤ n := by omega
    by_cases h2 : 126 < n
    · have h3i : (126 : Int) < n := by omega
      go_wp2_with fail
      go_ret
      exact ⟨by simp [h1, h2], rfl⟩
    · have h3i : ¬ (126 : Int) < n := by omega
      have h4i : (n : Int) ≤ 126 := by omega
      go_wp2_with fail
      go_ret
      exact ⟨by simp [h1, h2], rfl⟩

/-- a test of a byte, as a function -/
structure Tests (F : FuncId) (g : UInt8 → Bool) : Prop where
  enter : ∀ (args : Array Value) (w : World), (callFunc F args).run Tryd.prog w = .ok (.enter F args) w
  run : ∀ (c : UInt8) (w : World), Calls Tryd.prog F #[.int .u8 (c.toNat : Int)] w fun e w' => e = .returned (.bool (g c)) ∧ w' = w
set_option maxRecDepth 100000 in
theorem token1_tests : Tests 98 (fun c => !signB c) := ⟨fun _ _ => rfl, token1_any⟩
set_option maxRecDepth 100000 in
theorem plain1_tests : Tests 82 seenB := ⟨fun _ _ => rfl, plain1_any⟩

set_option maxHeartbeats 4000000 in
set_option maxRecDepth 100000 in
theorem indexFunc_any (F : FuncId) (g : UInt8 → Bool) (hF : Tests F g) (a : Option Addr) (n c : Nat) (l : List UInt8) (w : World) (hs : Sl w a n c l) :
    Calls Tryd.prog 99 #[.slice a n c, .func (.func F) #[] #[]] w fun e w' => (∃ r : Int, e = .returned (.int .i64 r) ∧ decide (0 ≤ r) = l.any g) ∧ w' = w := by
  have HS := Lib.hid hs
  have HL := Lib.hid hs.1
  have hn : (n : Int) ≤ 9223372036854775807 := by have h2 := hs.2.1; have h3 := hs.2.2.1; unfold maxLen at h3; omega
  have HE := Lib.hid hF.enter
  have HR := Lib.hid hF.run
  clear hs hF
  go_enter Tryd.func99, Tryd.ntmps99
  go_wp2_with fail
  go_loopw [8] (fun i wr => ∃ k : Nat, k ≤ n ∧ i = .int .i64 k ∧ Hid ((l.take k).any g = false) ∧ wr = w) (fun i _ => n - (intOf i).toNat)
  case atStart => exact ⟨0, Nat.zero_le _, rfl, Lib.hid rfl, rfl⟩
  case round =>
    obtain ⟨k, hk, rfl, hno, rfl⟩ := hrel
    by_cases hlt : k < n
    case neg =>
      have hki : ¬ (k : Int) < n := by omega
      go_wp2_with fail
      go_ret
      exact ⟨⟨-1, rfl, by have h := hno.out; rw [List.take_of_length_le (by have := HL.out; omega)] at h; rw [h]; rfl⟩, rfl⟩
    case pos =>
      have hki : (k : Int) < n := by omega
      have hkl : k < l.length := by have := HL.out; omega
      obtain ⟨b, o, rfl, hcell⟩ : ∃ b o, a = some ⟨b, o, none⟩ ∧ wr.cell? ⟨b, o + k, none⟩ = some (.int .u8 ((l[k]'hkl).toNat : Int)) := by
        rcases HS.out.2.2.2.2 with h | ⟨b, o, h1, h2⟩
        · omega
        · refine ⟨b, o, h1, ?_⟩
          have := h2 k hlt
          rwa [List.getD, List.getElem?_eq_getElem hkl] at this
      have HSN : Hid ((l.take (k + 1)).any g = g (l[k]'hkl)) := Lib.hid (by rw [List.take_add_one, List.any_append, hno.out, List.getElem?_eq_getElem hkl]; simp)
      have HAN : Hid (g (l[k]'hkl) = true → l.any g = true) := Lib.hid (fun h => List.any_eq_true.2 ⟨_, List.getElem_mem hkl, h⟩)
      generalize (l[k]'hkl) = x at *
      have hk0 : (0 : Int) ≤ k := by omega
      go_wp2_with fail
      rw [HE.out]
      refine (HR.out x wr).mono ?_
      rintro e w1 ⟨rfl, rfl⟩
      generalize hgx : g x = gx at *
      cases gx with
      | true =>
        go_wp2_with fail
        go_ret
        exact ⟨⟨k, rfl, by rw [HAN.out (by trivial)]; simp⟩, rfl⟩
      | false =>
        go_wp2_with fail
        go_roundw
        case rel => exact ⟨k + 1, by omega, by go_num, HSN, by trivial⟩
        case measure => simp [intOf] <;> omega
theorem containsFunc_any (F : FuncId) (g : UInt8 → Bool) (hF : Tests F g) (a : Option Addr) (n c : Nat) (l : List UInt8) (w : World) (hs : Sl w a n c l) :
    Calls Tryd.prog 81 #[.slice a n c, .func (.func F) #[] #[]] w fun e w' => e = .returned (.bool (l.any g)) ∧ w' = w := by
  have HI := Lib.hid (indexFunc_any F g hF a n c l w hs)
  clear hs
  go_enter Tryd.func81, Tryd.ntmps81
  go_wp2_with fail
  refine HI.out.mono ?_
  rintro e w1 ⟨⟨r, rfl, hr⟩, rfl⟩
  have HR := Lib.hid hr
  clear hr
  go_wp2_with fail
  go_ret
  exact ⟨by rw [← HR.out]; rfl, rfl⟩
/-! what is printed -/
def tokB (l : List UInt8) : Bool := decide (0 < l.length) && (!numB (l.getD 0 0) && !l.any (fun c => !signB c))
def quoteC (c : UInt8) : List UInt8 := if c = 34 ∨ c = 92 then [92, c] else [c]
def quoteL (l : List UInt8) : List UInt8 := [34] ++ l.flatMap quoteC ++ [34]
set_option maxHeartbeats 4000000 in
set_option maxRecDepth 100000 in
theorem token_any (a : Option Addr) (n c : Nat) (l : List UInt8) (w : World) (hs : Sl w a n c l) :
    Calls Tryd.prog 79 #[.slice a n c] w fun e w' => e = .returned (.bool (tokB l)) ∧ w' = w := by
  have HC := Lib.hid (containsFunc_any 98 _ token1_tests a n c l w hs)
  have hn : (n : Int) ≤ 9223372036854775807 := by have h2 := hs.2.1; have h3 := hs.2.2.1; unfold maxLen at h3; omega
  by_cases h0 : 0 < n
  · have h0i : (0 : Int) < n := by omega
    have hl0 : 0 < l.length := by have := hs.1; omega
    have HT : Hid (tokB l = (!numB (l.getD 0 0) && !l.any (fun c => !signB c))) := Lib.hid (by unfold tokB; rw [decide_eq_true hl0]; rfl)
    obtain ⟨b, o, rfl, hcell⟩ : ∃ b o, a = some ⟨b, o, none⟩ ∧ w.cell? ⟨b, o, none⟩ = some (.int .u8 ((l.getD 0 0).toNat : Int)) := by
      rcases hs.2.2.2.2 with h | ⟨b, o, h1, h2⟩
      · omega
      · exact ⟨b, o, h1, h2 0 h0⟩
    clear hs
    generalize l.getD 0 0 = x at *
    have h1 := isIn_num ⟨x.toNat, x.toNat_lt⟩
    rw [byte_fin] at h1
    have H1 := Lib.hid h1
    clear h1
    generalize l.any (fun c => !signB c) = q at *
    go_enter Tryd.func79, Tryd.ntmps79
    go_wp2_with fail
    refine (is_any _ x _).mono ?_
    rintro e w1 ⟨rfl, rfl⟩
    generalize hb : isIn _ x = bb
    obtain rfl : bb = numB x := hb.symm.trans H1.out
    clear hb H1
    generalize numB x = r at *
    cases r with
    | true =>
      go_wp2_with fail
      go_ret
      exact ⟨by rw [HT.out]; rfl, rfl⟩
    | false =>
      go_wp2_with fail
      refine HC.out.mono ?_
      rintro e w2 ⟨rfl, rfl⟩
      go_wp2_with fail
      go_ret
      exact ⟨by rw [HT.out]; cases q <;> rfl, rfl⟩
  · have h0i : ¬ (0 : Int) < n := by omega
    have HT : Hid (tokB l = false) := Lib.hid (by unfold tokB; rw [decide_eq_false (by have := hs.1; omega)]; rfl)
    clear hs HC
    go_enter Tryd.func79, Tryd.ntmps79
    go_wp2_with fail
    go_ret
    exact ⟨by rw [HT.out]; rfl, rfl⟩
end Go.Proofs.YtkbblhioncecmaaDoor

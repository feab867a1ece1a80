/- The document's May: what it computes. -/
import Derived.Test.YtoadpeigomkgiaaDoorOrdA
namespace Go.Proofs.YtoadpeigomkgiaaDoor
open Go.RowKit

theorem end_ways (o : Nat) (i p : Bool) (n : Nat) (l : List UInt8) (hl : n = l.length) :
    (i = true ∧ isV o l = true ∧ endB o ⟨i, p, l⟩ = true) ∨ (i = true ∧ isV o l = false ∧ endB o ⟨i, p, l⟩ = false) ∨ (i = false ∧ p = true ∧ endB o ⟨i, p, l⟩ = false) ∨
    (i = false ∧ p = false ∧ n = 0 ∧ endB o ⟨i, p, l⟩ = true) ∨ (i = false ∧ p = false ∧ ((n : Int) == 0) = false ∧ endB o ⟨i, p, l⟩ = false) := by
  unfold endB
  cases i
  · cases p
    · by_cases h : n = 0
      · subst h
        exact .inr (.inr (.inr (.inl ⟨rfl, rfl, rfl, by simp [← hl]⟩)))
      · exact .inr (.inr (.inr (.inr ⟨rfl, rfl, by rw [beq_eq_false_iff_ne]; omega, by simp only [Bool.false_eq_true, if_false, Bool.not_false, Bool.true_and]; rw [decide_eq_false]; omega⟩)))
    · exact .inr (.inr (.inl ⟨rfl, rfl, rfl⟩))
  · cases h : isV o l
    · exact .inr (.inl ⟨rfl, rfl, by simp⟩)
    · exact .inl ⟨rfl, rfl, by simp⟩

theorem ord_ways (r : Nat) : ((r : Int) < 1 ∧ isO r = false) ∨ ((1 : Int) ≤ r ∧ (5 : Int) < r ∧ isO r = false) ∨ ((1 : Int) ≤ r ∧ (r : Int) ≤ 5 ∧ isO r = true) := by
  unfold isO
  by_cases h1 : r < 1
  · exact .inl ⟨by omega, by rw [decide_eq_false]; omega⟩
  · by_cases h2 : 5 < r
    · exact .inr (.inl ⟨by omega, by omega, by rw [decide_eq_false]; omega⟩)
    · exact .inr (.inr ⟨by omega, by omega, by rw [decide_eq_true]; omega⟩)

set_option maxHeartbeats 20000000 in
set_option maxRecDepth 100000 in
theorem refMay_tt (r : Nat) (rli rlo : Bool) (rla : Option Addr) (rln rlc : Nat) (rll : List UInt8) (rhi rho : Bool) (rha : Option Addr) (rhn rhc : Nat) (rhl : List UInt8) (w : World) (Srl : Sl w rla rln rlc rll) (Nrl : rln ≤ 200) (Srh : Sl w rha rhn rhc rhl) (Nrh : rhn ≤ 200) (hw : (rli = true ∧ isV r rll = true ∧ endB r ⟨rli, rlo, rll⟩ = true)) :
    Calls Tryd.prog 15 #[.agg #[.int .u8 r, .bool rli, .bool rlo, .slice rla rln rlc, .bool rhi, .bool rho, .slice rha rhn rhc]] w fun e w' => e = .returned (.bool (mayB ⟨r, ⟨rli, rlo, rll⟩, ⟨rhi, rho, rhl⟩⟩)) ∧ Below w.heap.size w w' := by
  obtain ⟨rfl, vl, el⟩ := hw
  rcases end_ways r rhi rho rhn rhl Srh.1 with ⟨rfl, vh, eh⟩ | ⟨rfl, vh, eh⟩ | ⟨rfl, rfl, eh⟩ | ⟨rfl, rfl, rfl, eh⟩ | ⟨rfl, rfl, zh, eh⟩
  · have hb0 : Below w.heap.size w (w.alloc (.cells #[.int .u8 r, .bool true, .bool rlo, .slice rla rln rlc, .bool true, .bool rho, .slice rha rhn rhc] 31 (0, 0))) := (Below.refl _ _).alloc (Nat.le_refl _) _
    have hs1 := Srl.after hb0
    have hs2 := Srh.after hb0
    have B0 : Box (w.alloc (.cells #[.int .u8 r, .bool true, .bool rlo, .slice rla rln rlc, .bool true, .bool rho, .slice rha rhn rhc] 31 (0, 0))) w.heap.size 31 #[.int .u8 r, .bool true, .bool rlo, .slice rla rln rlc, .bool true, .bool rho, .slice rha rhn rhc] := Box.new _ _ _
    have q : mayB ⟨r, ⟨true, rlo, rll⟩, ⟨true, rho, rhl⟩⟩ = (isO r && true && true) := by show (isO r && endB r _ && endB r _) = _; rw [el, eh]
    rw [q]
    clear q el eh
    rcases ord_ways r with ⟨o1, o2⟩ | ⟨o1, o3, o2⟩ | ⟨o1, o3, o2⟩
    all_goals
      rw [o2]
      clear o2
      go_enter Tryd.func15, Tryd.ntmps15
      go_wp2_with fail
      refine (refIs_any _ _ _ _ _ _ (hs1) Nrl).mono ?_
      rintro e w1 ⟨rfl, hbw1⟩
      rw [vl]
      have hW1 := hb0.trans (hbw1.mono hb0.size)
      have B1 := B0.after hbw1
      have c0 := B1.cell 0 rfl
      have c1 := B1.cell 1 rfl
      have c2 := B1.cell 2 rfl
      have c3 := B1.cell 3 rfl
      have c4 := B1.cell 4 rfl
      have c5 := B1.cell 5 rfl
      have c6 := B1.cell 6 rfl
      go_wp2_with fail
      refine (refIs_any _ _ _ _ _ _ ((hs2).after hbw1) Nrh).mono ?_
      rintro e w2 ⟨rfl, hbw2⟩
      rw [vh]
      have hW2 := hW1.trans (hbw2.mono hW1.size)
      have B2 := B1.after hbw2
      have d0 := B2.cell 0 rfl
      have d1 := B2.cell 1 rfl
      have d2 := B2.cell 2 rfl
      have d3 := B2.cell 3 rfl
      have d4 := B2.cell 4 rfl
      have d5 := B2.cell 5 rfl
      have d6 := B2.cell 6 rfl
      go_wp2_with fail
      go_ret
      exact ⟨rfl, hW2⟩
  · have hb0 : Below w.heap.size w (w.alloc (.cells #[.int .u8 r, .bool true, .bool rlo, .slice rla rln rlc, .bool true, .bool rho, .slice rha rhn rhc] 31 (0, 0))) := (Below.refl _ _).alloc (Nat.le_refl _) _
    have hs1 := Srl.after hb0
    have hs2 := Srh.after hb0
    have B0 : Box (w.alloc (.cells #[.int .u8 r, .bool true, .bool rlo, .slice rla rln rlc, .bool true, .bool rho, .slice rha rhn rhc] 31 (0, 0))) w.heap.size 31 #[.int .u8 r, .bool true, .bool rlo, .slice rla rln rlc, .bool true, .bool rho, .slice rha rhn rhc] := Box.new _ _ _
    have q : mayB ⟨r, ⟨true, rlo, rll⟩, ⟨true, rho, rhl⟩⟩ = (isO r && true && false) := by show (isO r && endB r _ && endB r _) = _; rw [el, eh]
    rw [q]
    clear q el eh
    rcases ord_ways r with ⟨o1, o2⟩ | ⟨o1, o3, o2⟩ | ⟨o1, o3, o2⟩
    all_goals
      rw [o2]
      clear o2
      go_enter Tryd.func15, Tryd.ntmps15
      go_wp2_with fail
      refine (refIs_any _ _ _ _ _ _ (hs1) Nrl).mono ?_
      rintro e w1 ⟨rfl, hbw1⟩
      rw [vl]
      have hW1 := hb0.trans (hbw1.mono hb0.size)
      have B1 := B0.after hbw1
      have c0 := B1.cell 0 rfl
      have c1 := B1.cell 1 rfl
      have c2 := B1.cell 2 rfl
      have c3 := B1.cell 3 rfl
      have c4 := B1.cell 4 rfl
      have c5 := B1.cell 5 rfl
      have c6 := B1.cell 6 rfl
      go_wp2_with fail
      refine (refIs_any _ _ _ _ _ _ ((hs2).after hbw1) Nrh).mono ?_
      rintro e w2 ⟨rfl, hbw2⟩
      rw [vh]
      have hW2 := hW1.trans (hbw2.mono hW1.size)
      have B2 := B1.after hbw2
      have d0 := B2.cell 0 rfl
      have d1 := B2.cell 1 rfl
      have d2 := B2.cell 2 rfl
      have d3 := B2.cell 3 rfl
      have d4 := B2.cell 4 rfl
      have d5 := B2.cell 5 rfl
      have d6 := B2.cell 6 rfl
      go_wp2_with fail
      go_ret
      exact ⟨rfl, hW2⟩
  · have hb0 : Below w.heap.size w (w.alloc (.cells #[.int .u8 r, .bool true, .bool rlo, .slice rla rln rlc, .bool false, .bool true, .slice rha rhn rhc] 31 (0, 0))) := (Below.refl _ _).alloc (Nat.le_refl _) _
    have hs1 := Srl.after hb0
    have hs2 := Srh.after hb0
    have B0 : Box (w.alloc (.cells #[.int .u8 r, .bool true, .bool rlo, .slice rla rln rlc, .bool false, .bool true, .slice rha rhn rhc] 31 (0, 0))) w.heap.size 31 #[.int .u8 r, .bool true, .bool rlo, .slice rla rln rlc, .bool false, .bool true, .slice rha rhn rhc] := Box.new _ _ _
    have q : mayB ⟨r, ⟨true, rlo, rll⟩, ⟨false, true, rhl⟩⟩ = (isO r && true && false) := by show (isO r && endB r _ && endB r _) = _; rw [el, eh]
    rw [q]
    clear q el eh
    rcases ord_ways r with ⟨o1, o2⟩ | ⟨o1, o3, o2⟩ | ⟨o1, o3, o2⟩
    all_goals
      rw [o2]
      clear o2
      go_enter Tryd.func15, Tryd.ntmps15
      go_wp2_with fail
      refine (refIs_any _ _ _ _ _ _ (hs1) Nrl).mono ?_
      rintro e w1 ⟨rfl, hbw1⟩
      rw [vl]
      have hW1 := hb0.trans (hbw1.mono hb0.size)
      have B1 := B0.after hbw1
      have c0 := B1.cell 0 rfl
      have c1 := B1.cell 1 rfl
      have c2 := B1.cell 2 rfl
      have c3 := B1.cell 3 rfl
      have c4 := B1.cell 4 rfl
      have c5 := B1.cell 5 rfl
      have c6 := B1.cell 6 rfl
      go_wp2_with fail
      go_ret
      exact ⟨rfl, hW1⟩
  · have hb0 : Below w.heap.size w (w.alloc (.cells #[.int .u8 r, .bool true, .bool rlo, .slice rla rln rlc, .bool false, .bool false, .slice rha 0 rhc] 31 (0, 0))) := (Below.refl _ _).alloc (Nat.le_refl _) _
    have hs1 := Srl.after hb0
    have hs2 := Srh.after hb0
    have B0 : Box (w.alloc (.cells #[.int .u8 r, .bool true, .bool rlo, .slice rla rln rlc, .bool false, .bool false, .slice rha 0 rhc] 31 (0, 0))) w.heap.size 31 #[.int .u8 r, .bool true, .bool rlo, .slice rla rln rlc, .bool false, .bool false, .slice rha 0 rhc] := Box.new _ _ _
    have q : mayB ⟨r, ⟨true, rlo, rll⟩, ⟨false, false, rhl⟩⟩ = (isO r && true && true) := by show (isO r && endB r _ && endB r _) = _; rw [el, eh]
    rw [q]
    clear q el eh
    rcases ord_ways r with ⟨o1, o2⟩ | ⟨o1, o3, o2⟩ | ⟨o1, o3, o2⟩
    all_goals
      rw [o2]
      clear o2
      go_enter Tryd.func15, Tryd.ntmps15
      go_wp2_with fail
      refine (refIs_any _ _ _ _ _ _ (hs1) Nrl).mono ?_
      rintro e w1 ⟨rfl, hbw1⟩
      rw [vl]
      have hW1 := hb0.trans (hbw1.mono hb0.size)
      have B1 := B0.after hbw1
      have c0 := B1.cell 0 rfl
      have c1 := B1.cell 1 rfl
      have c2 := B1.cell 2 rfl
      have c3 := B1.cell 3 rfl
      have c4 := B1.cell 4 rfl
      have c5 := B1.cell 5 rfl
      have c6 := B1.cell 6 rfl
      go_wp2_with fail
      go_ret
      exact ⟨rfl, hW1⟩
  · have hb0 : Below w.heap.size w (w.alloc (.cells #[.int .u8 r, .bool true, .bool rlo, .slice rla rln rlc, .bool false, .bool false, .slice rha rhn rhc] 31 (0, 0))) := (Below.refl _ _).alloc (Nat.le_refl _) _
    have hs1 := Srl.after hb0
    have hs2 := Srh.after hb0
    have B0 : Box (w.alloc (.cells #[.int .u8 r, .bool true, .bool rlo, .slice rla rln rlc, .bool false, .bool false, .slice rha rhn rhc] 31 (0, 0))) w.heap.size 31 #[.int .u8 r, .bool true, .bool rlo, .slice rla rln rlc, .bool false, .bool false, .slice rha rhn rhc] := Box.new _ _ _
    have q : mayB ⟨r, ⟨true, rlo, rll⟩, ⟨false, false, rhl⟩⟩ = (isO r && true && false) := by show (isO r && endB r _ && endB r _) = _; rw [el, eh]
    rw [q]
    clear q el eh
    rcases ord_ways r with ⟨o1, o2⟩ | ⟨o1, o3, o2⟩ | ⟨o1, o3, o2⟩
    all_goals
      rw [o2]
      clear o2
      go_enter Tryd.func15, Tryd.ntmps15
      go_wp2_with fail
      refine (refIs_any _ _ _ _ _ _ (hs1) Nrl).mono ?_
      rintro e w1 ⟨rfl, hbw1⟩
      rw [vl]
      have hW1 := hb0.trans (hbw1.mono hb0.size)
      have B1 := B0.after hbw1
      have c0 := B1.cell 0 rfl
      have c1 := B1.cell 1 rfl
      have c2 := B1.cell 2 rfl
      have c3 := B1.cell 3 rfl
      have c4 := B1.cell 4 rfl
      have c5 := B1.cell 5 rfl
      have c6 := B1.cell 6 rfl
      go_wp2_with fail
      go_ret
      exact ⟨rfl, hW1⟩

set_option maxHeartbeats 20000000 in
set_option maxRecDepth 100000 in
theorem refMay_tf (r : Nat) (rli rlo : Bool) (rla : Option Addr) (rln rlc : Nat) (rll : List UInt8) (rhi rho : Bool) (rha : Option Addr) (rhn rhc : Nat) (rhl : List UInt8) (w : World) (Srl : Sl w rla rln rlc rll) (Nrl : rln ≤ 200) (Srh : Sl w rha rhn rhc rhl) (Nrh : rhn ≤ 200) (hw : (rli = true ∧ isV r rll = false ∧ endB r ⟨rli, rlo, rll⟩ = false)) :
    Calls Tryd.prog 15 #[.agg #[.int .u8 r, .bool rli, .bool rlo, .slice rla rln rlc, .bool rhi, .bool rho, .slice rha rhn rhc]] w fun e w' => e = .returned (.bool (mayB ⟨r, ⟨rli, rlo, rll⟩, ⟨rhi, rho, rhl⟩⟩)) ∧ Below w.heap.size w w' := by
  obtain ⟨rfl, vl, el⟩ := hw
  rcases end_ways r rhi rho rhn rhl Srh.1 with ⟨rfl, vh, eh⟩ | ⟨rfl, vh, eh⟩ | ⟨rfl, rfl, eh⟩ | ⟨rfl, rfl, rfl, eh⟩ | ⟨rfl, rfl, zh, eh⟩
  · have hb0 : Below w.heap.size w (w.alloc (.cells #[.int .u8 r, .bool true, .bool rlo, .slice rla rln rlc, .bool true, .bool rho, .slice rha rhn rhc] 31 (0, 0))) := (Below.refl _ _).alloc (Nat.le_refl _) _
    have hs1 := Srl.after hb0
    have hs2 := Srh.after hb0
    have B0 : Box (w.alloc (.cells #[.int .u8 r, .bool true, .bool rlo, .slice rla rln rlc, .bool true, .bool rho, .slice rha rhn rhc] 31 (0, 0))) w.heap.size 31 #[.int .u8 r, .bool true, .bool rlo, .slice rla rln rlc, .bool true, .bool rho, .slice rha rhn rhc] := Box.new _ _ _
    have q : mayB ⟨r, ⟨true, rlo, rll⟩, ⟨true, rho, rhl⟩⟩ = (isO r && false && true) := by show (isO r && endB r _ && endB r _) = _; rw [el, eh]
    rw [q]
    clear q el eh
    rcases ord_ways r with ⟨o1, o2⟩ | ⟨o1, o3, o2⟩ | ⟨o1, o3, o2⟩
    all_goals
      rw [o2]
      clear o2
      go_enter Tryd.func15, Tryd.ntmps15
      go_wp2_with fail
      refine (refIs_any _ _ _ _ _ _ (hs1) Nrl).mono ?_
      rintro e w1 ⟨rfl, hbw1⟩
      rw [vl]
      have hW1 := hb0.trans (hbw1.mono hb0.size)
      have B1 := B0.after hbw1
      have c0 := B1.cell 0 rfl
      have c1 := B1.cell 1 rfl
      have c2 := B1.cell 2 rfl
      have c3 := B1.cell 3 rfl
      have c4 := B1.cell 4 rfl
      have c5 := B1.cell 5 rfl
      have c6 := B1.cell 6 rfl
      go_wp2_with fail
      refine (refIs_any _ _ _ _ _ _ ((hs2).after hbw1) Nrh).mono ?_
      rintro e w2 ⟨rfl, hbw2⟩
      rw [vh]
      have hW2 := hW1.trans (hbw2.mono hW1.size)
      have B2 := B1.after hbw2
      have d0 := B2.cell 0 rfl
      have d1 := B2.cell 1 rfl
      have d2 := B2.cell 2 rfl
      have d3 := B2.cell 3 rfl
      have d4 := B2.cell 4 rfl
      have d5 := B2.cell 5 rfl
      have d6 := B2.cell 6 rfl
      go_wp2_with fail
      go_ret
      exact ⟨rfl, hW2⟩
  · have hb0 : Below w.heap.size w (w.alloc (.cells #[.int .u8 r, .bool true, .bool rlo, .slice rla rln rlc, .bool true, .bool rho, .slice rha rhn rhc] 31 (0, 0))) := (Below.refl _ _).alloc (Nat.le_refl _) _
    have hs1 := Srl.after hb0
    have hs2 := Srh.after hb0
    have B0 : Box (w.alloc (.cells #[.int .u8 r, .bool true, .bool rlo, .slice rla rln rlc, .bool true, .bool rho, .slice rha rhn rhc] 31 (0, 0))) w.heap.size 31 #[.int .u8 r, .bool true, .bool rlo, .slice rla rln rlc, .bool true, .bool rho, .slice rha rhn rhc] := Box.new _ _ _
    have q : mayB ⟨r, ⟨true, rlo, rll⟩, ⟨true, rho, rhl⟩⟩ = (isO r && false && false) := by show (isO r && endB r _ && endB r _) = _; rw [el, eh]
    rw [q]
    clear q el eh
    rcases ord_ways r with ⟨o1, o2⟩ | ⟨o1, o3, o2⟩ | ⟨o1, o3, o2⟩
    all_goals
      rw [o2]
      clear o2
      go_enter Tryd.func15, Tryd.ntmps15
      go_wp2_with fail
      refine (refIs_any _ _ _ _ _ _ (hs1) Nrl).mono ?_
      rintro e w1 ⟨rfl, hbw1⟩
      rw [vl]
      have hW1 := hb0.trans (hbw1.mono hb0.size)
      have B1 := B0.after hbw1
      have c0 := B1.cell 0 rfl
      have c1 := B1.cell 1 rfl
      have c2 := B1.cell 2 rfl
      have c3 := B1.cell 3 rfl
      have c4 := B1.cell 4 rfl
      have c5 := B1.cell 5 rfl
      have c6 := B1.cell 6 rfl
      go_wp2_with fail
      refine (refIs_any _ _ _ _ _ _ ((hs2).after hbw1) Nrh).mono ?_
      rintro e w2 ⟨rfl, hbw2⟩
      rw [vh]
      have hW2 := hW1.trans (hbw2.mono hW1.size)
      have B2 := B1.after hbw2
      have d0 := B2.cell 0 rfl
      have d1 := B2.cell 1 rfl
      have d2 := B2.cell 2 rfl
      have d3 := B2.cell 3 rfl
      have d4 := B2.cell 4 rfl
      have d5 := B2.cell 5 rfl
      have d6 := B2.cell 6 rfl
      go_wp2_with fail
      go_ret
      exact ⟨rfl, hW2⟩
  · have hb0 : Below w.heap.size w (w.alloc (.cells #[.int .u8 r, .bool true, .bool rlo, .slice rla rln rlc, .bool false, .bool true, .slice rha rhn rhc] 31 (0, 0))) := (Below.refl _ _).alloc (Nat.le_refl _) _
    have hs1 := Srl.after hb0
    have hs2 := Srh.after hb0
    have B0 : Box (w.alloc (.cells #[.int .u8 r, .bool true, .bool rlo, .slice rla rln rlc, .bool false, .bool true, .slice rha rhn rhc] 31 (0, 0))) w.heap.size 31 #[.int .u8 r, .bool true, .bool rlo, .slice rla rln rlc, .bool false, .bool true, .slice rha rhn rhc] := Box.new _ _ _
    have q : mayB ⟨r, ⟨true, rlo, rll⟩, ⟨false, true, rhl⟩⟩ = (isO r && false && false) := by show (isO r && endB r _ && endB r _) = _; rw [el, eh]
    rw [q]
    clear q el eh
    rcases ord_ways r with ⟨o1, o2⟩ | ⟨o1, o3, o2⟩ | ⟨o1, o3, o2⟩
    all_goals
      rw [o2]
      clear o2
      go_enter Tryd.func15, Tryd.ntmps15
      go_wp2_with fail
      refine (refIs_any _ _ _ _ _ _ (hs1) Nrl).mono ?_
      rintro e w1 ⟨rfl, hbw1⟩
      rw [vl]
      have hW1 := hb0.trans (hbw1.mono hb0.size)
      have B1 := B0.after hbw1
      have c0 := B1.cell 0 rfl
      have c1 := B1.cell 1 rfl
      have c2 := B1.cell 2 rfl
      have c3 := B1.cell 3 rfl
      have c4 := B1.cell 4 rfl
      have c5 := B1.cell 5 rfl
      have c6 := B1.cell 6 rfl
      go_wp2_with fail
      go_ret
      exact ⟨rfl, hW1⟩
  · have hb0 : Below w.heap.size w (w.alloc (.cells #[.int .u8 r, .bool true, .bool rlo, .slice rla rln rlc, .bool false, .bool false, .slice rha 0 rhc] 31 (0, 0))) := (Below.refl _ _).alloc (Nat.le_refl _) _
    have hs1 := Srl.after hb0
    have hs2 := Srh.after hb0
    have B0 : Box (w.alloc (.cells #[.int .u8 r, .bool true, .bool rlo, .slice rla rln rlc, .bool false, .bool false, .slice rha 0 rhc] 31 (0, 0))) w.heap.size 31 #[.int .u8 r, .bool true, .bool rlo, .slice rla rln rlc, .bool false, .bool false, .slice rha 0 rhc] := Box.new _ _ _
    have q : mayB ⟨r, ⟨true, rlo, rll⟩, ⟨false, false, rhl⟩⟩ = (isO r && false && true) := by show (isO r && endB r _ && endB r _) = _; rw [el, eh]
    rw [q]
    clear q el eh
    rcases ord_ways r with ⟨o1, o2⟩ | ⟨o1, o3, o2⟩ | ⟨o1, o3, o2⟩
    all_goals
      rw [o2]
      clear o2
      go_enter Tryd.func15, Tryd.ntmps15
      go_wp2_with fail
      refine (refIs_any _ _ _ _ _ _ (hs1) Nrl).mono ?_
      rintro e w1 ⟨rfl, hbw1⟩
      rw [vl]
      have hW1 := hb0.trans (hbw1.mono hb0.size)
      have B1 := B0.after hbw1
      have c0 := B1.cell 0 rfl
      have c1 := B1.cell 1 rfl
      have c2 := B1.cell 2 rfl
      have c3 := B1.cell 3 rfl
      have c4 := B1.cell 4 rfl
      have c5 := B1.cell 5 rfl
      have c6 := B1.cell 6 rfl
      go_wp2_with fail
      go_ret
      exact ⟨rfl, hW1⟩
  · have hb0 : Below w.heap.size w (w.alloc (.cells #[.int .u8 r, .bool true, .bool rlo, .slice rla rln rlc, .bool false, .bool false, .slice rha rhn rhc] 31 (0, 0))) := (Below.refl _ _).alloc (Nat.le_refl _) _
    have hs1 := Srl.after hb0
    have hs2 := Srh.after hb0
    have B0 : Box (w.alloc (.cells #[.int .u8 r, .bool true, .bool rlo, .slice rla rln rlc, .bool false, .bool false, .slice rha rhn rhc] 31 (0, 0))) w.heap.size 31 #[.int .u8 r, .bool true, .bool rlo, .slice rla rln rlc, .bool false, .bool false, .slice rha rhn rhc] := Box.new _ _ _
    have q : mayB ⟨r, ⟨true, rlo, rll⟩, ⟨false, false, rhl⟩⟩ = (isO r && false && false) := by show (isO r && endB r _ && endB r _) = _; rw [el, eh]
    rw [q]
    clear q el eh
    rcases ord_ways r with ⟨o1, o2⟩ | ⟨o1, o3, o2⟩ | ⟨o1, o3, o2⟩
    all_goals
      rw [o2]
      clear o2
      go_enter Tryd.func15, Tryd.ntmps15
      go_wp2_with fail
      refine (refIs_any _ _ _ _ _ _ (hs1) Nrl).mono ?_
      rintro e w1 ⟨rfl, hbw1⟩
      rw [vl]
      have hW1 := hb0.trans (hbw1.mono hb0.size)
      have B1 := B0.after hbw1
      have c0 := B1.cell 0 rfl
      have c1 := B1.cell 1 rfl
      have c2 := B1.cell 2 rfl
      have c3 := B1.cell 3 rfl
      have c4 := B1.cell 4 rfl
      have c5 := B1.cell 5 rfl
      have c6 := B1.cell 6 rfl
      go_wp2_with fail
      go_ret
      exact ⟨rfl, hW1⟩

set_option maxHeartbeats 20000000 in
set_option maxRecDepth 100000 in
theorem refMay_fo (r : Nat) (rli rlo : Bool) (rla : Option Addr) (rln rlc : Nat) (rll : List UInt8) (rhi rho : Bool) (rha : Option Addr) (rhn rhc : Nat) (rhl : List UInt8) (w : World) (Srl : Sl w rla rln rlc rll) (_Nrl : rln ≤ 200) (Srh : Sl w rha rhn rhc rhl) (Nrh : rhn ≤ 200) (hw : (rli = false ∧ rlo = true ∧ endB r ⟨rli, rlo, rll⟩ = false)) :
    Calls Tryd.prog 15 #[.agg #[.int .u8 r, .bool rli, .bool rlo, .slice rla rln rlc, .bool rhi, .bool rho, .slice rha rhn rhc]] w fun e w' => e = .returned (.bool (mayB ⟨r, ⟨rli, rlo, rll⟩, ⟨rhi, rho, rhl⟩⟩)) ∧ Below w.heap.size w w' := by
  obtain ⟨rfl, rfl, el⟩ := hw
  rcases end_ways r rhi rho rhn rhl Srh.1 with ⟨rfl, vh, eh⟩ | ⟨rfl, vh, eh⟩ | ⟨rfl, rfl, eh⟩ | ⟨rfl, rfl, rfl, eh⟩ | ⟨rfl, rfl, zh, eh⟩
  · have hb0 : Below w.heap.size w (w.alloc (.cells #[.int .u8 r, .bool false, .bool true, .slice rla rln rlc, .bool true, .bool rho, .slice rha rhn rhc] 31 (0, 0))) := (Below.refl _ _).alloc (Nat.le_refl _) _
    have hs1 := Srl.after hb0
    have hs2 := Srh.after hb0
    have B0 : Box (w.alloc (.cells #[.int .u8 r, .bool false, .bool true, .slice rla rln rlc, .bool true, .bool rho, .slice rha rhn rhc] 31 (0, 0))) w.heap.size 31 #[.int .u8 r, .bool false, .bool true, .slice rla rln rlc, .bool true, .bool rho, .slice rha rhn rhc] := Box.new _ _ _
    have q : mayB ⟨r, ⟨false, true, rll⟩, ⟨true, rho, rhl⟩⟩ = (isO r && false && true) := by show (isO r && endB r _ && endB r _) = _; rw [el, eh]
    rw [q]
    clear q el eh
    rcases ord_ways r with ⟨o1, o2⟩ | ⟨o1, o3, o2⟩ | ⟨o1, o3, o2⟩
    all_goals
      rw [o2]
      clear o2
      go_enter Tryd.func15, Tryd.ntmps15
      go_wp2_with fail
      refine (refIs_any _ _ _ _ _ _ (hs2) Nrh).mono ?_
      rintro e w2 ⟨rfl, hbw2⟩
      rw [vh]
      have hW2 := hb0.trans (hbw2.mono hb0.size)
      have B2 := B0.after hbw2
      have d0 := B2.cell 0 rfl
      have d1 := B2.cell 1 rfl
      have d2 := B2.cell 2 rfl
      have d3 := B2.cell 3 rfl
      have d4 := B2.cell 4 rfl
      have d5 := B2.cell 5 rfl
      have d6 := B2.cell 6 rfl
      go_wp2_with fail
      go_ret
      exact ⟨rfl, hW2⟩
  · have hb0 : Below w.heap.size w (w.alloc (.cells #[.int .u8 r, .bool false, .bool true, .slice rla rln rlc, .bool true, .bool rho, .slice rha rhn rhc] 31 (0, 0))) := (Below.refl _ _).alloc (Nat.le_refl _) _
    have hs1 := Srl.after hb0
    have hs2 := Srh.after hb0
    have B0 : Box (w.alloc (.cells #[.int .u8 r, .bool false, .bool true, .slice rla rln rlc, .bool true, .bool rho, .slice rha rhn rhc] 31 (0, 0))) w.heap.size 31 #[.int .u8 r, .bool false, .bool true, .slice rla rln rlc, .bool true, .bool rho, .slice rha rhn rhc] := Box.new _ _ _
    have q : mayB ⟨r, ⟨false, true, rll⟩, ⟨true, rho, rhl⟩⟩ = (isO r && false && false) := by show (isO r && endB r _ && endB r _) = _; rw [el, eh]
    rw [q]
    clear q el eh
    rcases ord_ways r with ⟨o1, o2⟩ | ⟨o1, o3, o2⟩ | ⟨o1, o3, o2⟩
    all_goals
      rw [o2]
      clear o2
      go_enter Tryd.func15, Tryd.ntmps15
      go_wp2_with fail
      refine (refIs_any _ _ _ _ _ _ (hs2) Nrh).mono ?_
      rintro e w2 ⟨rfl, hbw2⟩
      rw [vh]
      have hW2 := hb0.trans (hbw2.mono hb0.size)
      have B2 := B0.after hbw2
      have d0 := B2.cell 0 rfl
      have d1 := B2.cell 1 rfl
      have d2 := B2.cell 2 rfl
      have d3 := B2.cell 3 rfl
      have d4 := B2.cell 4 rfl
      have d5 := B2.cell 5 rfl
      have d6 := B2.cell 6 rfl
      go_wp2_with fail
      go_ret
      exact ⟨rfl, hW2⟩
  · have hb0 : Below w.heap.size w (w.alloc (.cells #[.int .u8 r, .bool false, .bool true, .slice rla rln rlc, .bool false, .bool true, .slice rha rhn rhc] 31 (0, 0))) := (Below.refl _ _).alloc (Nat.le_refl _) _
    have hs1 := Srl.after hb0
    have hs2 := Srh.after hb0
    have B0 : Box (w.alloc (.cells #[.int .u8 r, .bool false, .bool true, .slice rla rln rlc, .bool false, .bool true, .slice rha rhn rhc] 31 (0, 0))) w.heap.size 31 #[.int .u8 r, .bool false, .bool true, .slice rla rln rlc, .bool false, .bool true, .slice rha rhn rhc] := Box.new _ _ _
    have q : mayB ⟨r, ⟨false, true, rll⟩, ⟨false, true, rhl⟩⟩ = (isO r && false && false) := by show (isO r && endB r _ && endB r _) = _; rw [el, eh]
    rw [q]
    clear q el eh
    rcases ord_ways r with ⟨o1, o2⟩ | ⟨o1, o3, o2⟩ | ⟨o1, o3, o2⟩
    all_goals
      rw [o2]
      clear o2
      go_enter Tryd.func15, Tryd.ntmps15
      go_wp2_with fail
      go_ret
      exact ⟨rfl, hb0⟩
  · have hb0 : Below w.heap.size w (w.alloc (.cells #[.int .u8 r, .bool false, .bool true, .slice rla rln rlc, .bool false, .bool false, .slice rha 0 rhc] 31 (0, 0))) := (Below.refl _ _).alloc (Nat.le_refl _) _
    have hs1 := Srl.after hb0
    have hs2 := Srh.after hb0
    have B0 : Box (w.alloc (.cells #[.int .u8 r, .bool false, .bool true, .slice rla rln rlc, .bool false, .bool false, .slice rha 0 rhc] 31 (0, 0))) w.heap.size 31 #[.int .u8 r, .bool false, .bool true, .slice rla rln rlc, .bool false, .bool false, .slice rha 0 rhc] := Box.new _ _ _
    have q : mayB ⟨r, ⟨false, true, rll⟩, ⟨false, false, rhl⟩⟩ = (isO r && false && true) := by show (isO r && endB r _ && endB r _) = _; rw [el, eh]
    rw [q]
    clear q el eh
    rcases ord_ways r with ⟨o1, o2⟩ | ⟨o1, o3, o2⟩ | ⟨o1, o3, o2⟩
    all_goals
      rw [o2]
      clear o2
      go_enter Tryd.func15, Tryd.ntmps15
      go_wp2_with fail
      go_ret
      exact ⟨rfl, hb0⟩
  · have hb0 : Below w.heap.size w (w.alloc (.cells #[.int .u8 r, .bool false, .bool true, .slice rla rln rlc, .bool false, .bool false, .slice rha rhn rhc] 31 (0, 0))) := (Below.refl _ _).alloc (Nat.le_refl _) _
    have hs1 := Srl.after hb0
    have hs2 := Srh.after hb0
    have B0 : Box (w.alloc (.cells #[.int .u8 r, .bool false, .bool true, .slice rla rln rlc, .bool false, .bool false, .slice rha rhn rhc] 31 (0, 0))) w.heap.size 31 #[.int .u8 r, .bool false, .bool true, .slice rla rln rlc, .bool false, .bool false, .slice rha rhn rhc] := Box.new _ _ _
    have q : mayB ⟨r, ⟨false, true, rll⟩, ⟨false, false, rhl⟩⟩ = (isO r && false && false) := by show (isO r && endB r _ && endB r _) = _; rw [el, eh]
    rw [q]
    clear q el eh
    rcases ord_ways r with ⟨o1, o2⟩ | ⟨o1, o3, o2⟩ | ⟨o1, o3, o2⟩
    all_goals
      rw [o2]
      clear o2
      go_enter Tryd.func15, Tryd.ntmps15
      go_wp2_with fail
      go_ret
      exact ⟨rfl, hb0⟩

set_option maxHeartbeats 20000000 in
set_option maxRecDepth 100000 in
theorem refMay_f0 (r : Nat) (rli rlo : Bool) (rla : Option Addr) (rln rlc : Nat) (rll : List UInt8) (rhi rho : Bool) (rha : Option Addr) (rhn rhc : Nat) (rhl : List UInt8) (w : World) (Srl : Sl w rla rln rlc rll) (Nrl : rln ≤ 200) (Srh : Sl w rha rhn rhc rhl) (Nrh : rhn ≤ 200) (hw : (rli = false ∧ rlo = false ∧ rln = 0 ∧ endB r ⟨rli, rlo, rll⟩ = true)) :
    Calls Tryd.prog 15 #[.agg #[.int .u8 r, .bool rli, .bool rlo, .slice rla rln rlc, .bool rhi, .bool rho, .slice rha rhn rhc]] w fun e w' => e = .returned (.bool (mayB ⟨r, ⟨rli, rlo, rll⟩, ⟨rhi, rho, rhl⟩⟩)) ∧ Below w.heap.size w w' := by
  obtain ⟨rfl, rfl, rfl, el⟩ := hw
  rcases end_ways r rhi rho rhn rhl Srh.1 with ⟨rfl, vh, eh⟩ | ⟨rfl, vh, eh⟩ | ⟨rfl, rfl, eh⟩ | ⟨rfl, rfl, rfl, eh⟩ | ⟨rfl, rfl, zh, eh⟩
  · have hb0 : Below w.heap.size w (w.alloc (.cells #[.int .u8 r, .bool false, .bool false, .slice rla 0 rlc, .bool true, .bool rho, .slice rha rhn rhc] 31 (0, 0))) := (Below.refl _ _).alloc (Nat.le_refl _) _
    have hs1 := Srl.after hb0
    have hs2 := Srh.after hb0
    have B0 : Box (w.alloc (.cells #[.int .u8 r, .bool false, .bool false, .slice rla 0 rlc, .bool true, .bool rho, .slice rha rhn rhc] 31 (0, 0))) w.heap.size 31 #[.int .u8 r, .bool false, .bool false, .slice rla 0 rlc, .bool true, .bool rho, .slice rha rhn rhc] := Box.new _ _ _
    have q : mayB ⟨r, ⟨false, false, rll⟩, ⟨true, rho, rhl⟩⟩ = (isO r && true && true) := by show (isO r && endB r _ && endB r _) = _; rw [el, eh]
    rw [q]
    clear q el eh
    rcases ord_ways r with ⟨o1, o2⟩ | ⟨o1, o3, o2⟩ | ⟨o1, o3, o2⟩
    all_goals
      rw [o2]
      clear o2
      go_enter Tryd.func15, Tryd.ntmps15
      go_wp2_with fail
      refine (refIs_any _ _ _ _ _ _ (hs2) Nrh).mono ?_
      rintro e w2 ⟨rfl, hbw2⟩
      rw [vh]
      have hW2 := hb0.trans (hbw2.mono hb0.size)
      have B2 := B0.after hbw2
      have d0 := B2.cell 0 rfl
      have d1 := B2.cell 1 rfl
      have d2 := B2.cell 2 rfl
      have d3 := B2.cell 3 rfl
      have d4 := B2.cell 4 rfl
      have d5 := B2.cell 5 rfl
      have d6 := B2.cell 6 rfl
      go_wp2_with fail
      go_ret
      exact ⟨rfl, hW2⟩
  · have hb0 : Below w.heap.size w (w.alloc (.cells #[.int .u8 r, .bool false, .bool false, .slice rla 0 rlc, .bool true, .bool rho, .slice rha rhn rhc] 31 (0, 0))) := (Below.refl _ _).alloc (Nat.le_refl _) _
    have hs1 := Srl.after hb0
    have hs2 := Srh.after hb0
    have B0 : Box (w.alloc (.cells #[.int .u8 r, .bool false, .bool false, .slice rla 0 rlc, .bool true, .bool rho, .slice rha rhn rhc] 31 (0, 0))) w.heap.size 31 #[.int .u8 r, .bool false, .bool false, .slice rla 0 rlc, .bool true, .bool rho, .slice rha rhn rhc] := Box.new _ _ _
    have q : mayB ⟨r, ⟨false, false, rll⟩, ⟨true, rho, rhl⟩⟩ = (isO r && true && false) := by show (isO r && endB r _ && endB r _) = _; rw [el, eh]
    rw [q]
    clear q el eh
    rcases ord_ways r with ⟨o1, o2⟩ | ⟨o1, o3, o2⟩ | ⟨o1, o3, o2⟩
    all_goals
      rw [o2]
      clear o2
      go_enter Tryd.func15, Tryd.ntmps15
      go_wp2_with fail
      refine (refIs_any _ _ _ _ _ _ (hs2) Nrh).mono ?_
      rintro e w2 ⟨rfl, hbw2⟩
      rw [vh]
      have hW2 := hb0.trans (hbw2.mono hb0.size)
      have B2 := B0.after hbw2
      have d0 := B2.cell 0 rfl
      have d1 := B2.cell 1 rfl
      have d2 := B2.cell 2 rfl
      have d3 := B2.cell 3 rfl
      have d4 := B2.cell 4 rfl
      have d5 := B2.cell 5 rfl
      have d6 := B2.cell 6 rfl
      go_wp2_with fail
      go_ret
      exact ⟨rfl, hW2⟩
  · have hb0 : Below w.heap.size w (w.alloc (.cells #[.int .u8 r, .bool false, .bool false, .slice rla 0 rlc, .bool false, .bool true, .slice rha rhn rhc] 31 (0, 0))) := (Below.refl _ _).alloc (Nat.le_refl _) _
    have hs1 := Srl.after hb0
    have hs2 := Srh.after hb0
    have B0 : Box (w.alloc (.cells #[.int .u8 r, .bool false, .bool false, .slice rla 0 rlc, .bool false, .bool true, .slice rha rhn rhc] 31 (0, 0))) w.heap.size 31 #[.int .u8 r, .bool false, .bool false, .slice rla 0 rlc, .bool false, .bool true, .slice rha rhn rhc] := Box.new _ _ _
    have q : mayB ⟨r, ⟨false, false, rll⟩, ⟨false, true, rhl⟩⟩ = (isO r && true && false) := by show (isO r && endB r _ && endB r _) = _; rw [el, eh]
    rw [q]
    clear q el eh
    rcases ord_ways r with ⟨o1, o2⟩ | ⟨o1, o3, o2⟩ | ⟨o1, o3, o2⟩
    all_goals
      rw [o2]
      clear o2
      go_enter Tryd.func15, Tryd.ntmps15
      go_wp2_with fail
      go_ret
      exact ⟨rfl, hb0⟩
  · have hb0 : Below w.heap.size w (w.alloc (.cells #[.int .u8 r, .bool false, .bool false, .slice rla 0 rlc, .bool false, .bool false, .slice rha 0 rhc] 31 (0, 0))) := (Below.refl _ _).alloc (Nat.le_refl _) _
    have hs1 := Srl.after hb0
    have hs2 := Srh.after hb0
    have B0 : Box (w.alloc (.cells #[.int .u8 r, .bool false, .bool false, .slice rla 0 rlc, .bool false, .bool false, .slice rha 0 rhc] 31 (0, 0))) w.heap.size 31 #[.int .u8 r, .bool false, .bool false, .slice rla 0 rlc, .bool false, .bool false, .slice rha 0 rhc] := Box.new _ _ _
    have q : mayB ⟨r, ⟨false, false, rll⟩, ⟨false, false, rhl⟩⟩ = (isO r && true && true) := by show (isO r && endB r _ && endB r _) = _; rw [el, eh]
    rw [q]
    clear q el eh
    rcases ord_ways r with ⟨o1, o2⟩ | ⟨o1, o3, o2⟩ | ⟨o1, o3, o2⟩
    all_goals
      rw [o2]
      clear o2
      go_enter Tryd.func15, Tryd.ntmps15
      go_wp2_with fail
      go_ret
      exact ⟨rfl, hb0⟩
  · have hb0 : Below w.heap.size w (w.alloc (.cells #[.int .u8 r, .bool false, .bool false, .slice rla 0 rlc, .bool false, .bool false, .slice rha rhn rhc] 31 (0, 0))) := (Below.refl _ _).alloc (Nat.le_refl _) _
    have hs1 := Srl.after hb0
    have hs2 := Srh.after hb0
    have B0 : Box (w.alloc (.cells #[.int .u8 r, .bool false, .bool false, .slice rla 0 rlc, .bool false, .bool false, .slice rha rhn rhc] 31 (0, 0))) w.heap.size 31 #[.int .u8 r, .bool false, .bool false, .slice rla 0 rlc, .bool false, .bool false, .slice rha rhn rhc] := Box.new _ _ _
    have q : mayB ⟨r, ⟨false, false, rll⟩, ⟨false, false, rhl⟩⟩ = (isO r && true && false) := by show (isO r && endB r _ && endB r _) = _; rw [el, eh]
    rw [q]
    clear q el eh
    rcases ord_ways r with ⟨o1, o2⟩ | ⟨o1, o3, o2⟩ | ⟨o1, o3, o2⟩
    all_goals
      rw [o2]
      clear o2
      go_enter Tryd.func15, Tryd.ntmps15
      go_wp2_with fail
      go_ret
      exact ⟨rfl, hb0⟩

set_option maxHeartbeats 20000000 in
set_option maxRecDepth 100000 in
theorem refMay_fn (r : Nat) (rli rlo : Bool) (rla : Option Addr) (rln rlc : Nat) (rll : List UInt8) (rhi rho : Bool) (rha : Option Addr) (rhn rhc : Nat) (rhl : List UInt8) (w : World) (Srl : Sl w rla rln rlc rll) (_Nrl : rln ≤ 200) (Srh : Sl w rha rhn rhc rhl) (Nrh : rhn ≤ 200) (hw : (rli = false ∧ rlo = false ∧ ((rln : Int) == 0) = false ∧ endB r ⟨rli, rlo, rll⟩ = false)) :
    Calls Tryd.prog 15 #[.agg #[.int .u8 r, .bool rli, .bool rlo, .slice rla rln rlc, .bool rhi, .bool rho, .slice rha rhn rhc]] w fun e w' => e = .returned (.bool (mayB ⟨r, ⟨rli, rlo, rll⟩, ⟨rhi, rho, rhl⟩⟩)) ∧ Below w.heap.size w w' := by
  obtain ⟨rfl, rfl, zl, el⟩ := hw
  rcases end_ways r rhi rho rhn rhl Srh.1 with ⟨rfl, vh, eh⟩ | ⟨rfl, vh, eh⟩ | ⟨rfl, rfl, eh⟩ | ⟨rfl, rfl, rfl, eh⟩ | ⟨rfl, rfl, zh, eh⟩
  · have hb0 : Below w.heap.size w (w.alloc (.cells #[.int .u8 r, .bool false, .bool false, .slice rla rln rlc, .bool true, .bool rho, .slice rha rhn rhc] 31 (0, 0))) := (Below.refl _ _).alloc (Nat.le_refl _) _
    have hs1 := Srl.after hb0
    have hs2 := Srh.after hb0
    have B0 : Box (w.alloc (.cells #[.int .u8 r, .bool false, .bool false, .slice rla rln rlc, .bool true, .bool rho, .slice rha rhn rhc] 31 (0, 0))) w.heap.size 31 #[.int .u8 r, .bool false, .bool false, .slice rla rln rlc, .bool true, .bool rho, .slice rha rhn rhc] := Box.new _ _ _
    have q : mayB ⟨r, ⟨false, false, rll⟩, ⟨true, rho, rhl⟩⟩ = (isO r && false && true) := by show (isO r && endB r _ && endB r _) = _; rw [el, eh]
    rw [q]
    clear q el eh
    rcases ord_ways r with ⟨o1, o2⟩ | ⟨o1, o3, o2⟩ | ⟨o1, o3, o2⟩
    all_goals
      rw [o2]
      clear o2
      go_enter Tryd.func15, Tryd.ntmps15
      go_wp2_with fail
      refine (refIs_any _ _ _ _ _ _ (hs2) Nrh).mono ?_
      rintro e w2 ⟨rfl, hbw2⟩
      rw [vh]
      have hW2 := hb0.trans (hbw2.mono hb0.size)
      have B2 := B0.after hbw2
      have d0 := B2.cell 0 rfl
      have d1 := B2.cell 1 rfl
      have d2 := B2.cell 2 rfl
      have d3 := B2.cell 3 rfl
      have d4 := B2.cell 4 rfl
      have d5 := B2.cell 5 rfl
      have d6 := B2.cell 6 rfl
      go_wp2_with fail
      go_ret
      exact ⟨rfl, hW2⟩
  · have hb0 : Below w.heap.size w (w.alloc (.cells #[.int .u8 r, .bool false, .bool false, .slice rla rln rlc, .bool true, .bool rho, .slice rha rhn rhc] 31 (0, 0))) := (Below.refl _ _).alloc (Nat.le_refl _) _
    have hs1 := Srl.after hb0
    have hs2 := Srh.after hb0
    have B0 : Box (w.alloc (.cells #[.int .u8 r, .bool false, .bool false, .slice rla rln rlc, .bool true, .bool rho, .slice rha rhn rhc] 31 (0, 0))) w.heap.size 31 #[.int .u8 r, .bool false, .bool false, .slice rla rln rlc, .bool true, .bool rho, .slice rha rhn rhc] := Box.new _ _ _
    have q : mayB ⟨r, ⟨false, false, rll⟩, ⟨true, rho, rhl⟩⟩ = (isO r && false && false) := by show (isO r && endB r _ && endB r _) = _; rw [el, eh]
    rw [q]
    clear q el eh
    rcases ord_ways r with ⟨o1, o2⟩ | ⟨o1, o3, o2⟩ | ⟨o1, o3, o2⟩
    all_goals
      rw [o2]
      clear o2
      go_enter Tryd.func15, Tryd.ntmps15
      go_wp2_with fail
      refine (refIs_any _ _ _ _ _ _ (hs2) Nrh).mono ?_
      rintro e w2 ⟨rfl, hbw2⟩
      rw [vh]
      have hW2 := hb0.trans (hbw2.mono hb0.size)
      have B2 := B0.after hbw2
      have d0 := B2.cell 0 rfl
      have d1 := B2.cell 1 rfl
      have d2 := B2.cell 2 rfl
      have d3 := B2.cell 3 rfl
      have d4 := B2.cell 4 rfl
      have d5 := B2.cell 5 rfl
      have d6 := B2.cell 6 rfl
      go_wp2_with fail
      go_ret
      exact ⟨rfl, hW2⟩
  · have hb0 : Below w.heap.size w (w.alloc (.cells #[.int .u8 r, .bool false, .bool false, .slice rla rln rlc, .bool false, .bool true, .slice rha rhn rhc] 31 (0, 0))) := (Below.refl _ _).alloc (Nat.le_refl _) _
    have hs1 := Srl.after hb0
    have hs2 := Srh.after hb0
    have B0 : Box (w.alloc (.cells #[.int .u8 r, .bool false, .bool false, .slice rla rln rlc, .bool false, .bool true, .slice rha rhn rhc] 31 (0, 0))) w.heap.size 31 #[.int .u8 r, .bool false, .bool false, .slice rla rln rlc, .bool false, .bool true, .slice rha rhn rhc] := Box.new _ _ _
    have q : mayB ⟨r, ⟨false, false, rll⟩, ⟨false, true, rhl⟩⟩ = (isO r && false && false) := by show (isO r && endB r _ && endB r _) = _; rw [el, eh]
    rw [q]
    clear q el eh
    rcases ord_ways r with ⟨o1, o2⟩ | ⟨o1, o3, o2⟩ | ⟨o1, o3, o2⟩
    all_goals
      rw [o2]
      clear o2
      go_enter Tryd.func15, Tryd.ntmps15
      go_wp2_with fail
      go_ret
      exact ⟨rfl, hb0⟩
  · have hb0 : Below w.heap.size w (w.alloc (.cells #[.int .u8 r, .bool false, .bool false, .slice rla rln rlc, .bool false, .bool false, .slice rha 0 rhc] 31 (0, 0))) := (Below.refl _ _).alloc (Nat.le_refl _) _
    have hs1 := Srl.after hb0
    have hs2 := Srh.after hb0
    have B0 : Box (w.alloc (.cells #[.int .u8 r, .bool false, .bool false, .slice rla rln rlc, .bool false, .bool false, .slice rha 0 rhc] 31 (0, 0))) w.heap.size 31 #[.int .u8 r, .bool false, .bool false, .slice rla rln rlc, .bool false, .bool false, .slice rha 0 rhc] := Box.new _ _ _
    have q : mayB ⟨r, ⟨false, false, rll⟩, ⟨false, false, rhl⟩⟩ = (isO r && false && true) := by show (isO r && endB r _ && endB r _) = _; rw [el, eh]
    rw [q]
    clear q el eh
    rcases ord_ways r with ⟨o1, o2⟩ | ⟨o1, o3, o2⟩ | ⟨o1, o3, o2⟩
    all_goals
      rw [o2]
      clear o2
      go_enter Tryd.func15, Tryd.ntmps15
      go_wp2_with fail
      go_ret
      exact ⟨rfl, hb0⟩
  · have hb0 : Below w.heap.size w (w.alloc (.cells #[.int .u8 r, .bool false, .bool false, .slice rla rln rlc, .bool false, .bool false, .slice rha rhn rhc] 31 (0, 0))) := (Below.refl _ _).alloc (Nat.le_refl _) _
    have hs1 := Srl.after hb0
    have hs2 := Srh.after hb0
    have B0 : Box (w.alloc (.cells #[.int .u8 r, .bool false, .bool false, .slice rla rln rlc, .bool false, .bool false, .slice rha rhn rhc] 31 (0, 0))) w.heap.size 31 #[.int .u8 r, .bool false, .bool false, .slice rla rln rlc, .bool false, .bool false, .slice rha rhn rhc] := Box.new _ _ _
    have q : mayB ⟨r, ⟨false, false, rll⟩, ⟨false, false, rhl⟩⟩ = (isO r && false && false) := by show (isO r && endB r _ && endB r _) = _; rw [el, eh]
    rw [q]
    clear q el eh
    rcases ord_ways r with ⟨o1, o2⟩ | ⟨o1, o3, o2⟩ | ⟨o1, o3, o2⟩
    all_goals
      rw [o2]
      clear o2
      go_enter Tryd.func15, Tryd.ntmps15
      go_wp2_with fail
      go_ret
      exact ⟨rfl, hb0⟩

theorem refMay_any (r : Nat) (rli rlo : Bool) (rla : Option Addr) (rln rlc : Nat) (rll : List UInt8) (rhi rho : Bool) (rha : Option Addr) (rhn rhc : Nat) (rhl : List UInt8) (w : World) (Srl : Sl w rla rln rlc rll) (Nrl : rln ≤ 200) (Srh : Sl w rha rhn rhc rhl) (Nrh : rhn ≤ 200) :
    Calls Tryd.prog 15 #[.agg #[.int .u8 r, .bool rli, .bool rlo, .slice rla rln rlc, .bool rhi, .bool rho, .slice rha rhn rhc]] w fun e w' => e = .returned (.bool (mayB ⟨r, ⟨rli, rlo, rll⟩, ⟨rhi, rho, rhl⟩⟩)) ∧ Below w.heap.size w w' := by
  rcases end_ways r rli rlo rln rll Srl.1 with h | h | h | h | h
  · exact refMay_tt _ _ _ _ _ _ _ _ _ _ _ _ _ _ Srl Nrl Srh Nrh h
  · exact refMay_tf _ _ _ _ _ _ _ _ _ _ _ _ _ _ Srl Nrl Srh Nrh h
  · exact refMay_fo _ _ _ _ _ _ _ _ _ _ _ _ _ _ Srl Nrl Srh Nrh h
  · exact refMay_f0 _ _ _ _ _ _ _ _ _ _ _ _ _ _ Srl Nrl Srh Nrh h
  · exact refMay_fn _ _ _ _ _ _ _ _ _ _ _ _ _ _ Srl Nrl Srh Nrh h
end Go.Proofs.YtoadpeigomkgiaaDoor

import Derived.Test.YtmmkaclmgnpplaaGreatDoorMz18
set_option maxRecDepth 100000
set_option maxHeartbeats 64000000
set_option linter.unusedSimpArgs false
set_option linter.unusedVariables false
namespace Go.Proofs.YtmmkaclmgnpplaaGreatDoor
open Go.RowKit
theorem gq (o : Nat) (i p : Bool) (n : Nat) (l : List UInt8) (hl : n = l.length) :
  (i = true ∧ isV o l = true ∧ endB o ⟨i, p, l⟩ = true) ∨ (i = true ∧ isV o l = false ∧ endB o ⟨i, p, l⟩ = false) ∨ (i = false ∧ p = true ∧ endB o ⟨i, p, l⟩ = false) ∨
  (i = false ∧ p = false ∧ n = 0 ∧ endB o ⟨i, p, l⟩ = true) ∨ (i = false ∧ p = false ∧ ((n : Int) == 0) = false ∧ endB o ⟨i, p, l⟩ = false) := by
 unfold endB
 cases i
 ·cases p
  ·by_cases h : n = 0
   ·subst h
    exact .inr (.inr (.inr (.inl ⟨rfl, rfl, rfl, by simp [← hl]⟩)))
   ·exact .inr (.inr (.inr (.inr ⟨rfl, rfl, by rw [beq_eq_false_iff_ne]; omega, by simp only [Bool.false_eq_true, if_false, Bool.not_false, Bool.true_and]; rw [decide_eq_false]; omega⟩)))
  ·exact .inr (.inr (.inl ⟨rfl, rfl, rfl⟩))
 ·cases h : isV o l
  ·exact .inr (.inl ⟨rfl, rfl, by simp⟩)
  ·exact .inl ⟨rfl, rfl, by simp⟩
theorem aZ (r : Nat) : ((r : Int) < 1 ∧ isO r = false) ∨ ((1 : Int) ≤ r ∧ (5 : Int) < r ∧ isO r = false) ∨ ((1 : Int) ≤ r ∧ (r : Int) ≤ 5 ∧ isO r = true) := by
 unfold isO
 by_cases h1 : r < 1
 ·exact .inl ⟨by omega, by rw [decide_eq_false]; omega⟩
 ·by_cases h2 : 5 < r
  ·exact .inr (.inl ⟨by omega, by omega, by rw [decide_eq_false]; omega⟩)
  ·exact .inr (.inr ⟨by omega, by omega, by rw [decide_eq_true]; omega⟩)
theorem tO (r : Nat) (bV a7 : Bool) (bs : Option Addr) (bi bm : Nat) (bU : List UInt8) (bW bf : Bool) (bu : Option Addr) (bg bt : Nat) (bZ : List UInt8) (w : World) (Srl : Sl w bs bi bm bU) (Nrl : bi ≤ 6000) (Srh : Sl w bu bg bt bZ) (Nrh : bg ≤ 6000) (hw : (bV = true ∧ isV r bU = true ∧ endB r ⟨bV, a7, bU⟩ = true)) :
  Calls Tryz.prog 50 #[.agg #[.int .u8 r, .bool bV, .bool a7, .slice bs bi bm, .bool bW, .bool bf, .slice bu bg bt]] w fun e w' => e = .returned (.bool (mayB ⟨r, ⟨bV, a7, bU⟩, ⟨bW, bf, bZ⟩⟩)) ∧ Below w.heap.size w w' := by
 obtain ⟨rfl, vl, el⟩ := hw
 rcases gq r bW bf bg bZ Srh.1 with ⟨rfl, vh, eh⟩ | ⟨rfl, vh, eh⟩ | ⟨rfl, rfl, eh⟩ | ⟨rfl, rfl, rfl, eh⟩ | ⟨rfl, rfl, zh, eh⟩
 ·have au : Below w.heap.size w (w.alloc (.cells #[.int .u8 r, .bool true, .bool a7, .slice bs bi bm, .bool true, .bool bf, .slice bu bg bt] 27 (0, 0))) := (Below.refl _ _).alloc (Nat.le_refl _) _
  have an := Srl.after au
  have aO := Srh.after au
  have B0 : Box (w.alloc (.cells #[.int .u8 r, .bool true, .bool a7, .slice bs bi bm, .bool true, .bool bf, .slice bu bg bt] 27 (0, 0))) w.heap.size 27 #[.int .u8 r, .bool true, .bool a7, .slice bs bi bm, .bool true, .bool bf, .slice bu bg bt] := Box.new _ _ _
  have q : mayB ⟨r, ⟨true, a7, bU⟩, ⟨true, bf, bZ⟩⟩ = (isO r && true && true) := by show (isO r && endB r _ && endB r _) = _; rw [el, eh]
  rw [q]
  clear q el eh
  rcases aZ r with ⟨o1, o2⟩ | ⟨o1, o3, o2⟩ | ⟨o1, o3, o2⟩
  all_goals
   rw [o2]
   clear o2
   go_enter Tryz.func50, Tryz.ntmps50
   go_wp2_with fail
   refine (aM _ _ _ _ _ _ (an) Nrl).mono ?_
   rintro e w1 ⟨rfl, hbw1⟩
   rw [vl]
   have jq := au.trans (hbw1.mono au.size)
   have B1 := B0.after hbw1
   have c0 := B1.cell 0 rfl
   have c1 := B1.cell 1 rfl
   have c2 := B1.cell 2 rfl
   have c3 := B1.cell 3 rfl
   have c4 := B1.cell 4 rfl
   have c5 := B1.cell 5 rfl
   have c6 := B1.cell 6 rfl
   go_wp2_with fail
   refine (aM _ _ _ _ _ _ ((aO).after hbw1) Nrh).mono ?_
   rintro e w2 ⟨rfl, hbw2⟩
   rw [vh]
   have bE := jq.trans (hbw2.mono jq.size)
   have B2 := B1.after hbw2
   have d0 := B2.cell 0 rfl
   have d1 := B2.cell 1 rfl
   have d2 := B2.cell 2 rfl
   have d3 := B2.cell 3 rfl
   have d4 := B2.cell 4 rfl
   have d5 := B2.cell 5 rfl
   have d6 := B2.cell 6 rfl
   go_wp2_with fail
   go_ret
   exact ⟨rfl, bE⟩
 ·have au : Below w.heap.size w (w.alloc (.cells #[.int .u8 r, .bool true, .bool a7, .slice bs bi bm, .bool true, .bool bf, .slice bu bg bt] 27 (0, 0))) := (Below.refl _ _).alloc (Nat.le_refl _) _
  have an := Srl.after au
  have aO := Srh.after au
  have B0 : Box (w.alloc (.cells #[.int .u8 r, .bool true, .bool a7, .slice bs bi bm, .bool true, .bool bf, .slice bu bg bt] 27 (0, 0))) w.heap.size 27 #[.int .u8 r, .bool true, .bool a7, .slice bs bi bm, .bool true, .bool bf, .slice bu bg bt] := Box.new _ _ _
  have q : mayB ⟨r, ⟨true, a7, bU⟩, ⟨true, bf, bZ⟩⟩ = (isO r && true && false) := by show (isO r && endB r _ && endB r _) = _; rw [el, eh]
  rw [q]
  clear q el eh
  rcases aZ r with ⟨o1, o2⟩ | ⟨o1, o3, o2⟩ | ⟨o1, o3, o2⟩
  all_goals
   rw [o2]
   clear o2
   go_enter Tryz.func50, Tryz.ntmps50
   go_wp2_with fail
   refine (aM _ _ _ _ _ _ (an) Nrl).mono ?_
   rintro e w1 ⟨rfl, hbw1⟩
   rw [vl]
   have jq := au.trans (hbw1.mono au.size)
   have B1 := B0.after hbw1
   have c0 := B1.cell 0 rfl
   have c1 := B1.cell 1 rfl
   have c2 := B1.cell 2 rfl
   have c3 := B1.cell 3 rfl
   have c4 := B1.cell 4 rfl
   have c5 := B1.cell 5 rfl
   have c6 := B1.cell 6 rfl
   go_wp2_with fail
   refine (aM _ _ _ _ _ _ ((aO).after hbw1) Nrh).mono ?_
   rintro e w2 ⟨rfl, hbw2⟩
   rw [vh]
   have bE := jq.trans (hbw2.mono jq.size)
   have B2 := B1.after hbw2
   have d0 := B2.cell 0 rfl
   have d1 := B2.cell 1 rfl
   have d2 := B2.cell 2 rfl
   have d3 := B2.cell 3 rfl
   have d4 := B2.cell 4 rfl
   have d5 := B2.cell 5 rfl
   have d6 := B2.cell 6 rfl
   go_wp2_with fail
   go_ret
   exact ⟨rfl, bE⟩
 ·have au : Below w.heap.size w (w.alloc (.cells #[.int .u8 r, .bool true, .bool a7, .slice bs bi bm, .bool false, .bool true, .slice bu bg bt] 27 (0, 0))) := (Below.refl _ _).alloc (Nat.le_refl _) _
  have an := Srl.after au
  have aO := Srh.after au
  have B0 : Box (w.alloc (.cells #[.int .u8 r, .bool true, .bool a7, .slice bs bi bm, .bool false, .bool true, .slice bu bg bt] 27 (0, 0))) w.heap.size 27 #[.int .u8 r, .bool true, .bool a7, .slice bs bi bm, .bool false, .bool true, .slice bu bg bt] := Box.new _ _ _
  have q : mayB ⟨r, ⟨true, a7, bU⟩, ⟨false, true, bZ⟩⟩ = (isO r && true && false) := by show (isO r && endB r _ && endB r _) = _; rw [el, eh]
  rw [q]
  clear q el eh
  rcases aZ r with ⟨o1, o2⟩ | ⟨o1, o3, o2⟩ | ⟨o1, o3, o2⟩
  all_goals
   rw [o2]
   clear o2
   go_enter Tryz.func50, Tryz.ntmps50
   go_wp2_with fail
   refine (aM _ _ _ _ _ _ (an) Nrl).mono ?_
   rintro e w1 ⟨rfl, hbw1⟩
   rw [vl]
   have jq := au.trans (hbw1.mono au.size)
   have B1 := B0.after hbw1
   have c0 := B1.cell 0 rfl
   have c1 := B1.cell 1 rfl
   have c2 := B1.cell 2 rfl
   have c3 := B1.cell 3 rfl
   have c4 := B1.cell 4 rfl
   have c5 := B1.cell 5 rfl
   have c6 := B1.cell 6 rfl
   go_wp2_with fail
   go_ret
   exact ⟨rfl, jq⟩
 ·have au : Below w.heap.size w (w.alloc (.cells #[.int .u8 r, .bool true, .bool a7, .slice bs bi bm, .bool false, .bool false, .slice bu 0 bt] 27 (0, 0))) := (Below.refl _ _).alloc (Nat.le_refl _) _
  have an := Srl.after au
  have aO := Srh.after au
  have B0 : Box (w.alloc (.cells #[.int .u8 r, .bool true, .bool a7, .slice bs bi bm, .bool false, .bool false, .slice bu 0 bt] 27 (0, 0))) w.heap.size 27 #[.int .u8 r, .bool true, .bool a7, .slice bs bi bm, .bool false, .bool false, .slice bu 0 bt] := Box.new _ _ _
  have q : mayB ⟨r, ⟨true, a7, bU⟩, ⟨false, false, bZ⟩⟩ = (isO r && true && true) := by show (isO r && endB r _ && endB r _) = _; rw [el, eh]
  rw [q]
  clear q el eh
  rcases aZ r with ⟨o1, o2⟩ | ⟨o1, o3, o2⟩ | ⟨o1, o3, o2⟩
  all_goals
   rw [o2]
   clear o2
   go_enter Tryz.func50, Tryz.ntmps50
   go_wp2_with fail
   refine (aM _ _ _ _ _ _ (an) Nrl).mono ?_
   rintro e w1 ⟨rfl, hbw1⟩
   rw [vl]
   have jq := au.trans (hbw1.mono au.size)
   have B1 := B0.after hbw1
   have c0 := B1.cell 0 rfl
   have c1 := B1.cell 1 rfl
   have c2 := B1.cell 2 rfl
   have c3 := B1.cell 3 rfl
   have c4 := B1.cell 4 rfl
   have c5 := B1.cell 5 rfl
   have c6 := B1.cell 6 rfl
   go_wp2_with fail
   go_ret
   exact ⟨rfl, jq⟩
 ·have au : Below w.heap.size w (w.alloc (.cells #[.int .u8 r, .bool true, .bool a7, .slice bs bi bm, .bool false, .bool false, .slice bu bg bt] 27 (0, 0))) := (Below.refl _ _).alloc (Nat.le_refl _) _
  have an := Srl.after au
  have aO := Srh.after au
  have B0 : Box (w.alloc (.cells #[.int .u8 r, .bool true, .bool a7, .slice bs bi bm, .bool false, .bool false, .slice bu bg bt] 27 (0, 0))) w.heap.size 27 #[.int .u8 r, .bool true, .bool a7, .slice bs bi bm, .bool false, .bool false, .slice bu bg bt] := Box.new _ _ _
  have q : mayB ⟨r, ⟨true, a7, bU⟩, ⟨false, false, bZ⟩⟩ = (isO r && true && false) := by show (isO r && endB r _ && endB r _) = _; rw [el, eh]
  rw [q]
  clear q el eh
  rcases aZ r with ⟨o1, o2⟩ | ⟨o1, o3, o2⟩ | ⟨o1, o3, o2⟩
  all_goals
   rw [o2]
   clear o2
   go_enter Tryz.func50, Tryz.ntmps50
   go_wp2_with fail
   refine (aM _ _ _ _ _ _ (an) Nrl).mono ?_
   rintro e w1 ⟨rfl, hbw1⟩
   rw [vl]
   have jq := au.trans (hbw1.mono au.size)
   have B1 := B0.after hbw1
   have c0 := B1.cell 0 rfl
   have c1 := B1.cell 1 rfl
   have c2 := B1.cell 2 rfl
   have c3 := B1.cell 3 rfl
   have c4 := B1.cell 4 rfl
   have c5 := B1.cell 5 rfl
   have c6 := B1.cell 6 rfl
   go_wp2_with fail
   go_ret
   exact ⟨rfl, jq⟩
theorem tP (r : Nat) (bV a7 : Bool) (bs : Option Addr) (bi bm : Nat) (bU : List UInt8) (bW bf : Bool) (bu : Option Addr) (bg bt : Nat) (bZ : List UInt8) (w : World) (Srl : Sl w bs bi bm bU) (Nrl : bi ≤ 6000) (Srh : Sl w bu bg bt bZ) (Nrh : bg ≤ 6000) (hw : (bV = true ∧ isV r bU = false ∧ endB r ⟨bV, a7, bU⟩ = false)) :
  Calls Tryz.prog 50 #[.agg #[.int .u8 r, .bool bV, .bool a7, .slice bs bi bm, .bool bW, .bool bf, .slice bu bg bt]] w fun e w' => e = .returned (.bool (mayB ⟨r, ⟨bV, a7, bU⟩, ⟨bW, bf, bZ⟩⟩)) ∧ Below w.heap.size w w' := by
 obtain ⟨rfl, vl, el⟩ := hw
 rcases gq r bW bf bg bZ Srh.1 with ⟨rfl, vh, eh⟩ | ⟨rfl, vh, eh⟩ | ⟨rfl, rfl, eh⟩ | ⟨rfl, rfl, rfl, eh⟩ | ⟨rfl, rfl, zh, eh⟩
 ·have au : Below w.heap.size w (w.alloc (.cells #[.int .u8 r, .bool true, .bool a7, .slice bs bi bm, .bool true, .bool bf, .slice bu bg bt] 27 (0, 0))) := (Below.refl _ _).alloc (Nat.le_refl _) _
  have an := Srl.after au
  have aO := Srh.after au
  have B0 : Box (w.alloc (.cells #[.int .u8 r, .bool true, .bool a7, .slice bs bi bm, .bool true, .bool bf, .slice bu bg bt] 27 (0, 0))) w.heap.size 27 #[.int .u8 r, .bool true, .bool a7, .slice bs bi bm, .bool true, .bool bf, .slice bu bg bt] := Box.new _ _ _
  have q : mayB ⟨r, ⟨true, a7, bU⟩, ⟨true, bf, bZ⟩⟩ = (isO r && false && true) := by show (isO r && endB r _ && endB r _) = _; rw [el, eh]
  rw [q]
  clear q el eh
  rcases aZ r with ⟨o1, o2⟩ | ⟨o1, o3, o2⟩ | ⟨o1, o3, o2⟩
  all_goals
   rw [o2]
   clear o2
   go_enter Tryz.func50, Tryz.ntmps50
   go_wp2_with fail
   refine (aM _ _ _ _ _ _ (an) Nrl).mono ?_
   rintro e w1 ⟨rfl, hbw1⟩
   rw [vl]
   have jq := au.trans (hbw1.mono au.size)
   have B1 := B0.after hbw1
   have c0 := B1.cell 0 rfl
   have c1 := B1.cell 1 rfl
   have c2 := B1.cell 2 rfl
   have c3 := B1.cell 3 rfl
   have c4 := B1.cell 4 rfl
   have c5 := B1.cell 5 rfl
   have c6 := B1.cell 6 rfl
   go_wp2_with fail
   refine (aM _ _ _ _ _ _ ((aO).after hbw1) Nrh).mono ?_
   rintro e w2 ⟨rfl, hbw2⟩
   rw [vh]
   have bE := jq.trans (hbw2.mono jq.size)
   have B2 := B1.after hbw2
   have d0 := B2.cell 0 rfl
   have d1 := B2.cell 1 rfl
   have d2 := B2.cell 2 rfl
   have d3 := B2.cell 3 rfl
   have d4 := B2.cell 4 rfl
   have d5 := B2.cell 5 rfl
   have d6 := B2.cell 6 rfl
   go_wp2_with fail
   go_ret
   exact ⟨rfl, bE⟩
 ·have au : Below w.heap.size w (w.alloc (.cells #[.int .u8 r, .bool true, .bool a7, .slice bs bi bm, .bool true, .bool bf, .slice bu bg bt] 27 (0, 0))) := (Below.refl _ _).alloc (Nat.le_refl _) _
  have an := Srl.after au
  have aO := Srh.after au
  have B0 : Box (w.alloc (.cells #[.int .u8 r, .bool true, .bool a7, .slice bs bi bm, .bool true, .bool bf, .slice bu bg bt] 27 (0, 0))) w.heap.size 27 #[.int .u8 r, .bool true, .bool a7, .slice bs bi bm, .bool true, .bool bf, .slice bu bg bt] := Box.new _ _ _
  have q : mayB ⟨r, ⟨true, a7, bU⟩, ⟨true, bf, bZ⟩⟩ = (isO r && false && false) := by show (isO r && endB r _ && endB r _) = _; rw [el, eh]
  rw [q]
  clear q el eh
  rcases aZ r with ⟨o1, o2⟩ | ⟨o1, o3, o2⟩ | ⟨o1, o3, o2⟩
  all_goals
   rw [o2]
   clear o2
   go_enter Tryz.func50, Tryz.ntmps50
   go_wp2_with fail
   refine (aM _ _ _ _ _ _ (an) Nrl).mono ?_
   rintro e w1 ⟨rfl, hbw1⟩
   rw [vl]
   have jq := au.trans (hbw1.mono au.size)
   have B1 := B0.after hbw1
   have c0 := B1.cell 0 rfl
   have c1 := B1.cell 1 rfl
   have c2 := B1.cell 2 rfl
   have c3 := B1.cell 3 rfl
   have c4 := B1.cell 4 rfl
   have c5 := B1.cell 5 rfl
   have c6 := B1.cell 6 rfl
   go_wp2_with fail
   refine (aM _ _ _ _ _ _ ((aO).after hbw1) Nrh).mono ?_
   rintro e w2 ⟨rfl, hbw2⟩
   rw [vh]
   have bE := jq.trans (hbw2.mono jq.size)
   have B2 := B1.after hbw2
   have d0 := B2.cell 0 rfl
   have d1 := B2.cell 1 rfl
   have d2 := B2.cell 2 rfl
   have d3 := B2.cell 3 rfl
   have d4 := B2.cell 4 rfl
   have d5 := B2.cell 5 rfl
   have d6 := B2.cell 6 rfl
   go_wp2_with fail
   go_ret
   exact ⟨rfl, bE⟩
 ·have au : Below w.heap.size w (w.alloc (.cells #[.int .u8 r, .bool true, .bool a7, .slice bs bi bm, .bool false, .bool true, .slice bu bg bt] 27 (0, 0))) := (Below.refl _ _).alloc (Nat.le_refl _) _
  have an := Srl.after au
  have aO := Srh.after au
  have B0 : Box (w.alloc (.cells #[.int .u8 r, .bool true, .bool a7, .slice bs bi bm, .bool false, .bool true, .slice bu bg bt] 27 (0, 0))) w.heap.size 27 #[.int .u8 r, .bool true, .bool a7, .slice bs bi bm, .bool false, .bool true, .slice bu bg bt] := Box.new _ _ _
  have q : mayB ⟨r, ⟨true, a7, bU⟩, ⟨false, true, bZ⟩⟩ = (isO r && false && false) := by show (isO r && endB r _ && endB r _) = _; rw [el, eh]
  rw [q]
  clear q el eh
  rcases aZ r with ⟨o1, o2⟩ | ⟨o1, o3, o2⟩ | ⟨o1, o3, o2⟩
  all_goals
   rw [o2]
   clear o2
   go_enter Tryz.func50, Tryz.ntmps50
   go_wp2_with fail
   refine (aM _ _ _ _ _ _ (an) Nrl).mono ?_
   rintro e w1 ⟨rfl, hbw1⟩
   rw [vl]
   have jq := au.trans (hbw1.mono au.size)
   have B1 := B0.after hbw1
   have c0 := B1.cell 0 rfl
   have c1 := B1.cell 1 rfl
   have c2 := B1.cell 2 rfl
   have c3 := B1.cell 3 rfl
   have c4 := B1.cell 4 rfl
   have c5 := B1.cell 5 rfl
   have c6 := B1.cell 6 rfl
   go_wp2_with fail
   go_ret
   exact ⟨rfl, jq⟩
 ·have au : Below w.heap.size w (w.alloc (.cells #[.int .u8 r, .bool true, .bool a7, .slice bs bi bm, .bool false, .bool false, .slice bu 0 bt] 27 (0, 0))) := (Below.refl _ _).alloc (Nat.le_refl _) _
  have an := Srl.after au
  have aO := Srh.after au
  have B0 : Box (w.alloc (.cells #[.int .u8 r, .bool true, .bool a7, .slice bs bi bm, .bool false, .bool false, .slice bu 0 bt] 27 (0, 0))) w.heap.size 27 #[.int .u8 r, .bool true, .bool a7, .slice bs bi bm, .bool false, .bool false, .slice bu 0 bt] := Box.new _ _ _
  have q : mayB ⟨r, ⟨true, a7, bU⟩, ⟨false, false, bZ⟩⟩ = (isO r && false && true) := by show (isO r && endB r _ && endB r _) = _; rw [el, eh]
  rw [q]
  clear q el eh
  rcases aZ r with ⟨o1, o2⟩ | ⟨o1, o3, o2⟩ | ⟨o1, o3, o2⟩
  all_goals
   rw [o2]
   clear o2
   go_enter Tryz.func50, Tryz.ntmps50
   go_wp2_with fail
   refine (aM _ _ _ _ _ _ (an) Nrl).mono ?_
   rintro e w1 ⟨rfl, hbw1⟩
   rw [vl]
   have jq := au.trans (hbw1.mono au.size)
   have B1 := B0.after hbw1
   have c0 := B1.cell 0 rfl
   have c1 := B1.cell 1 rfl
   have c2 := B1.cell 2 rfl
   have c3 := B1.cell 3 rfl
   have c4 := B1.cell 4 rfl
   have c5 := B1.cell 5 rfl
   have c6 := B1.cell 6 rfl
   go_wp2_with fail
   go_ret
   exact ⟨rfl, jq⟩
 ·have au : Below w.heap.size w (w.alloc (.cells #[.int .u8 r, .bool true, .bool a7, .slice bs bi bm, .bool false, .bool false, .slice bu bg bt] 27 (0, 0))) := (Below.refl _ _).alloc (Nat.le_refl _) _
  have an := Srl.after au
  have aO := Srh.after au
  have B0 : Box (w.alloc (.cells #[.int .u8 r, .bool true, .bool a7, .slice bs bi bm, .bool false, .bool false, .slice bu bg bt] 27 (0, 0))) w.heap.size 27 #[.int .u8 r, .bool true, .bool a7, .slice bs bi bm, .bool false, .bool false, .slice bu bg bt] := Box.new _ _ _
  have q : mayB ⟨r, ⟨true, a7, bU⟩, ⟨false, false, bZ⟩⟩ = (isO r && false && false) := by show (isO r && endB r _ && endB r _) = _; rw [el, eh]
  rw [q]
  clear q el eh
  rcases aZ r with ⟨o1, o2⟩ | ⟨o1, o3, o2⟩ | ⟨o1, o3, o2⟩
  all_goals
   rw [o2]
   clear o2
   go_enter Tryz.func50, Tryz.ntmps50
   go_wp2_with fail
   refine (aM _ _ _ _ _ _ (an) Nrl).mono ?_
   rintro e w1 ⟨rfl, hbw1⟩
   rw [vl]
   have jq := au.trans (hbw1.mono au.size)
   have B1 := B0.after hbw1
   have c0 := B1.cell 0 rfl
   have c1 := B1.cell 1 rfl
   have c2 := B1.cell 2 rfl
   have c3 := B1.cell 3 rfl
   have c4 := B1.cell 4 rfl
   have c5 := B1.cell 5 rfl
   have c6 := B1.cell 6 rfl
   go_wp2_with fail
   go_ret
   exact ⟨rfl, jq⟩
theorem tQ (r : Nat) (bV a7 : Bool) (bs : Option Addr) (bi bm : Nat) (bU : List UInt8) (bW bf : Bool) (bu : Option Addr) (bg bt : Nat) (bZ : List UInt8) (w : World) (Srl : Sl w bs bi bm bU) (_Nrl : bi ≤ 6000) (Srh : Sl w bu bg bt bZ) (Nrh : bg ≤ 6000) (hw : (bV = false ∧ a7 = true ∧ endB r ⟨bV, a7, bU⟩ = false)) :
  Calls Tryz.prog 50 #[.agg #[.int .u8 r, .bool bV, .bool a7, .slice bs bi bm, .bool bW, .bool bf, .slice bu bg bt]] w fun e w' => e = .returned (.bool (mayB ⟨r, ⟨bV, a7, bU⟩, ⟨bW, bf, bZ⟩⟩)) ∧ Below w.heap.size w w' := by
 obtain ⟨rfl, rfl, el⟩ := hw
 rcases gq r bW bf bg bZ Srh.1 with ⟨rfl, vh, eh⟩ | ⟨rfl, vh, eh⟩ | ⟨rfl, rfl, eh⟩ | ⟨rfl, rfl, rfl, eh⟩ | ⟨rfl, rfl, zh, eh⟩
 ·have au : Below w.heap.size w (w.alloc (.cells #[.int .u8 r, .bool false, .bool true, .slice bs bi bm, .bool true, .bool bf, .slice bu bg bt] 27 (0, 0))) := (Below.refl _ _).alloc (Nat.le_refl _) _
  have an := Srl.after au
  have aO := Srh.after au
  have B0 : Box (w.alloc (.cells #[.int .u8 r, .bool false, .bool true, .slice bs bi bm, .bool true, .bool bf, .slice bu bg bt] 27 (0, 0))) w.heap.size 27 #[.int .u8 r, .bool false, .bool true, .slice bs bi bm, .bool true, .bool bf, .slice bu bg bt] := Box.new _ _ _
  have q : mayB ⟨r, ⟨false, true, bU⟩, ⟨true, bf, bZ⟩⟩ = (isO r && false && true) := by show (isO r && endB r _ && endB r _) = _; rw [el, eh]
  rw [q]
  clear q el eh
  rcases aZ r with ⟨o1, o2⟩ | ⟨o1, o3, o2⟩ | ⟨o1, o3, o2⟩
  all_goals
   rw [o2]
   clear o2
   go_enter Tryz.func50, Tryz.ntmps50
   go_wp2_with fail
   refine (aM _ _ _ _ _ _ (aO) Nrh).mono ?_
   rintro e w2 ⟨rfl, hbw2⟩
   rw [vh]
   have bE := au.trans (hbw2.mono au.size)
   have B2 := B0.after hbw2
   have d0 := B2.cell 0 rfl
   have d1 := B2.cell 1 rfl
   have d2 := B2.cell 2 rfl
   have d3 := B2.cell 3 rfl
   have d4 := B2.cell 4 rfl
   have d5 := B2.cell 5 rfl
   have d6 := B2.cell 6 rfl
   go_wp2_with fail
   go_ret
   exact ⟨rfl, bE⟩
 ·have au : Below w.heap.size w (w.alloc (.cells #[.int .u8 r, .bool false, .bool true, .slice bs bi bm, .bool true, .bool bf, .slice bu bg bt] 27 (0, 0))) := (Below.refl _ _).alloc (Nat.le_refl _) _
  have an := Srl.after au
  have aO := Srh.after au
  have B0 : Box (w.alloc (.cells #[.int .u8 r, .bool false, .bool true, .slice bs bi bm, .bool true, .bool bf, .slice bu bg bt] 27 (0, 0))) w.heap.size 27 #[.int .u8 r, .bool false, .bool true, .slice bs bi bm, .bool true, .bool bf, .slice bu bg bt] := Box.new _ _ _
  have q : mayB ⟨r, ⟨false, true, bU⟩, ⟨true, bf, bZ⟩⟩ = (isO r && false && false) := by show (isO r && endB r _ && endB r _) = _; rw [el, eh]
  rw [q]
  clear q el eh
  rcases aZ r with ⟨o1, o2⟩ | ⟨o1, o3, o2⟩ | ⟨o1, o3, o2⟩
  all_goals
   rw [o2]
   clear o2
   go_enter Tryz.func50, Tryz.ntmps50
   go_wp2_with fail
   refine (aM _ _ _ _ _ _ (aO) Nrh).mono ?_
   rintro e w2 ⟨rfl, hbw2⟩
   rw [vh]
   have bE := au.trans (hbw2.mono au.size)
   have B2 := B0.after hbw2
   have d0 := B2.cell 0 rfl
   have d1 := B2.cell 1 rfl
   have d2 := B2.cell 2 rfl
   have d3 := B2.cell 3 rfl
   have d4 := B2.cell 4 rfl
   have d5 := B2.cell 5 rfl
   have d6 := B2.cell 6 rfl
   go_wp2_with fail
   go_ret
   exact ⟨rfl, bE⟩
 ·have au : Below w.heap.size w (w.alloc (.cells #[.int .u8 r, .bool false, .bool true, .slice bs bi bm, .bool false, .bool true, .slice bu bg bt] 27 (0, 0))) := (Below.refl _ _).alloc (Nat.le_refl _) _
  have an := Srl.after au
  have aO := Srh.after au
  have B0 : Box (w.alloc (.cells #[.int .u8 r, .bool false, .bool true, .slice bs bi bm, .bool false, .bool true, .slice bu bg bt] 27 (0, 0))) w.heap.size 27 #[.int .u8 r, .bool false, .bool true, .slice bs bi bm, .bool false, .bool true, .slice bu bg bt] := Box.new _ _ _
  have q : mayB ⟨r, ⟨false, true, bU⟩, ⟨false, true, bZ⟩⟩ = (isO r && false && false) := by show (isO r && endB r _ && endB r _) = _; rw [el, eh]
  rw [q]
  clear q el eh
  rcases aZ r with ⟨o1, o2⟩ | ⟨o1, o3, o2⟩ | ⟨o1, o3, o2⟩
  all_goals
   rw [o2]
   clear o2
   go_enter Tryz.func50, Tryz.ntmps50
   go_wp2_with fail
   go_ret
   exact ⟨rfl, au⟩
 ·have au : Below w.heap.size w (w.alloc (.cells #[.int .u8 r, .bool false, .bool true, .slice bs bi bm, .bool false, .bool false, .slice bu 0 bt] 27 (0, 0))) := (Below.refl _ _).alloc (Nat.le_refl _) _
  have an := Srl.after au
  have aO := Srh.after au
  have B0 : Box (w.alloc (.cells #[.int .u8 r, .bool false, .bool true, .slice bs bi bm, .bool false, .bool false, .slice bu 0 bt] 27 (0, 0))) w.heap.size 27 #[.int .u8 r, .bool false, .bool true, .slice bs bi bm, .bool false, .bool false, .slice bu 0 bt] := Box.new _ _ _
  have q : mayB ⟨r, ⟨false, true, bU⟩, ⟨false, false, bZ⟩⟩ = (isO r && false && true) := by show (isO r && endB r _ && endB r _) = _; rw [el, eh]
  rw [q]
  clear q el eh
  rcases aZ r with ⟨o1, o2⟩ | ⟨o1, o3, o2⟩ | ⟨o1, o3, o2⟩
  all_goals
   rw [o2]
   clear o2
   go_enter Tryz.func50, Tryz.ntmps50
   go_wp2_with fail
   go_ret
   exact ⟨rfl, au⟩
 ·have au : Below w.heap.size w (w.alloc (.cells #[.int .u8 r, .bool false, .bool true, .slice bs bi bm, .bool false, .bool false, .slice bu bg bt] 27 (0, 0))) := (Below.refl _ _).alloc (Nat.le_refl _) _
  have an := Srl.after au
  have aO := Srh.after au
  have B0 : Box (w.alloc (.cells #[.int .u8 r, .bool false, .bool true, .slice bs bi bm, .bool false, .bool false, .slice bu bg bt] 27 (0, 0))) w.heap.size 27 #[.int .u8 r, .bool false, .bool true, .slice bs bi bm, .bool false, .bool false, .slice bu bg bt] := Box.new _ _ _
  have q : mayB ⟨r, ⟨false, true, bU⟩, ⟨false, false, bZ⟩⟩ = (isO r && false && false) := by show (isO r && endB r _ && endB r _) = _; rw [el, eh]
  rw [q]
  clear q el eh
  rcases aZ r with ⟨o1, o2⟩ | ⟨o1, o3, o2⟩ | ⟨o1, o3, o2⟩
  all_goals
   rw [o2]
   clear o2
   go_enter Tryz.func50, Tryz.ntmps50
   go_wp2_with fail
   go_ret
   exact ⟨rfl, au⟩
theorem tS (r : Nat) (bV a7 : Bool) (bs : Option Addr) (bi bm : Nat) (bU : List UInt8) (bW bf : Bool) (bu : Option Addr) (bg bt : Nat) (bZ : List UInt8) (w : World) (Srl : Sl w bs bi bm bU) (Nrl : bi ≤ 6000) (Srh : Sl w bu bg bt bZ) (Nrh : bg ≤ 6000) (hw : (bV = false ∧ a7 = false ∧ bi = 0 ∧ endB r ⟨bV, a7, bU⟩ = true)) :
  Calls Tryz.prog 50 #[.agg #[.int .u8 r, .bool bV, .bool a7, .slice bs bi bm, .bool bW, .bool bf, .slice bu bg bt]] w fun e w' => e = .returned (.bool (mayB ⟨r, ⟨bV, a7, bU⟩, ⟨bW, bf, bZ⟩⟩)) ∧ Below w.heap.size w w' := by
 obtain ⟨rfl, rfl, rfl, el⟩ := hw
 rcases gq r bW bf bg bZ Srh.1 with ⟨rfl, vh, eh⟩ | ⟨rfl, vh, eh⟩ | ⟨rfl, rfl, eh⟩ | ⟨rfl, rfl, rfl, eh⟩ | ⟨rfl, rfl, zh, eh⟩
 ·have au : Below w.heap.size w (w.alloc (.cells #[.int .u8 r, .bool false, .bool false, .slice bs 0 bm, .bool true, .bool bf, .slice bu bg bt] 27 (0, 0))) := (Below.refl _ _).alloc (Nat.le_refl _) _
  have an := Srl.after au
  have aO := Srh.after au
  have B0 : Box (w.alloc (.cells #[.int .u8 r, .bool false, .bool false, .slice bs 0 bm, .bool true, .bool bf, .slice bu bg bt] 27 (0, 0))) w.heap.size 27 #[.int .u8 r, .bool false, .bool false, .slice bs 0 bm, .bool true, .bool bf, .slice bu bg bt] := Box.new _ _ _
  have q : mayB ⟨r, ⟨false, false, bU⟩, ⟨true, bf, bZ⟩⟩ = (isO r && true && true) := by show (isO r && endB r _ && endB r _) = _; rw [el, eh]
  rw [q]
  clear q el eh
  rcases aZ r with ⟨o1, o2⟩ | ⟨o1, o3, o2⟩ | ⟨o1, o3, o2⟩
  all_goals
   rw [o2]
   clear o2
   go_enter Tryz.func50, Tryz.ntmps50
   go_wp2_with fail
   refine (aM _ _ _ _ _ _ (aO) Nrh).mono ?_
   rintro e w2 ⟨rfl, hbw2⟩
   rw [vh]
   have bE := au.trans (hbw2.mono au.size)
   have B2 := B0.after hbw2
   have d0 := B2.cell 0 rfl
   have d1 := B2.cell 1 rfl
   have d2 := B2.cell 2 rfl
   have d3 := B2.cell 3 rfl
   have d4 := B2.cell 4 rfl
   have d5 := B2.cell 5 rfl
   have d6 := B2.cell 6 rfl
   go_wp2_with fail
   go_ret
   exact ⟨rfl, bE⟩
 ·have au : Below w.heap.size w (w.alloc (.cells #[.int .u8 r, .bool false, .bool false, .slice bs 0 bm, .bool true, .bool bf, .slice bu bg bt] 27 (0, 0))) := (Below.refl _ _).alloc (Nat.le_refl _) _
  have an := Srl.after au
  have aO := Srh.after au
  have B0 : Box (w.alloc (.cells #[.int .u8 r, .bool false, .bool false, .slice bs 0 bm, .bool true, .bool bf, .slice bu bg bt] 27 (0, 0))) w.heap.size 27 #[.int .u8 r, .bool false, .bool false, .slice bs 0 bm, .bool true, .bool bf, .slice bu bg bt] := Box.new _ _ _
  have q : mayB ⟨r, ⟨false, false, bU⟩, ⟨true, bf, bZ⟩⟩ = (isO r && true && false) := by show (isO r && endB r _ && endB r _) = _; rw [el, eh]
  rw [q]
  clear q el eh
  rcases aZ r with ⟨o1, o2⟩ | ⟨o1, o3, o2⟩ | ⟨o1, o3, o2⟩
  all_goals
   rw [o2]
   clear o2
   go_enter Tryz.func50, Tryz.ntmps50
   go_wp2_with fail
   refine (aM _ _ _ _ _ _ (aO) Nrh).mono ?_
   rintro e w2 ⟨rfl, hbw2⟩
   rw [vh]
   have bE := au.trans (hbw2.mono au.size)
   have B2 := B0.after hbw2
   have d0 := B2.cell 0 rfl
   have d1 := B2.cell 1 rfl
   have d2 := B2.cell 2 rfl
   have d3 := B2.cell 3 rfl
   have d4 := B2.cell 4 rfl
   have d5 := B2.cell 5 rfl
   have d6 := B2.cell 6 rfl
   go_wp2_with fail
   go_ret
   exact ⟨rfl, bE⟩
 ·have au : Below w.heap.size w (w.alloc (.cells #[.int .u8 r, .bool false, .bool false, .slice bs 0 bm, .bool false, .bool true, .slice bu bg bt] 27 (0, 0))) := (Below.refl _ _).alloc (Nat.le_refl _) _
  have an := Srl.after au
  have aO := Srh.after au
  have B0 : Box (w.alloc (.cells #[.int .u8 r, .bool false, .bool false, .slice bs 0 bm, .bool false, .bool true, .slice bu bg bt] 27 (0, 0))) w.heap.size 27 #[.int .u8 r, .bool false, .bool false, .slice bs 0 bm, .bool false, .bool true, .slice bu bg bt] := Box.new _ _ _
  have q : mayB ⟨r, ⟨false, false, bU⟩, ⟨false, true, bZ⟩⟩ = (isO r && true && false) := by show (isO r && endB r _ && endB r _) = _; rw [el, eh]
  rw [q]
  clear q el eh
  rcases aZ r with ⟨o1, o2⟩ | ⟨o1, o3, o2⟩ | ⟨o1, o3, o2⟩
  all_goals
   rw [o2]
   clear o2
   go_enter Tryz.func50, Tryz.ntmps50
   go_wp2_with fail
   go_ret
   exact ⟨rfl, au⟩
 ·have au : Below w.heap.size w (w.alloc (.cells #[.int .u8 r, .bool false, .bool false, .slice bs 0 bm, .bool false, .bool false, .slice bu 0 bt] 27 (0, 0))) := (Below.refl _ _).alloc (Nat.le_refl _) _
  have an := Srl.after au
  have aO := Srh.after au
  have B0 : Box (w.alloc (.cells #[.int .u8 r, .bool false, .bool false, .slice bs 0 bm, .bool false, .bool false, .slice bu 0 bt] 27 (0, 0))) w.heap.size 27 #[.int .u8 r, .bool false, .bool false, .slice bs 0 bm, .bool false, .bool false, .slice bu 0 bt] := Box.new _ _ _
  have q : mayB ⟨r, ⟨false, false, bU⟩, ⟨false, false, bZ⟩⟩ = (isO r && true && true) := by show (isO r && endB r _ && endB r _) = _; rw [el, eh]
  rw [q]
  clear q el eh
  rcases aZ r with ⟨o1, o2⟩ | ⟨o1, o3, o2⟩ | ⟨o1, o3, o2⟩
  all_goals
   rw [o2]
   clear o2
   go_enter Tryz.func50, Tryz.ntmps50
   go_wp2_with fail
   go_ret
   exact ⟨rfl, au⟩
 ·have au : Below w.heap.size w (w.alloc (.cells #[.int .u8 r, .bool false, .bool false, .slice bs 0 bm, .bool false, .bool false, .slice bu bg bt] 27 (0, 0))) := (Below.refl _ _).alloc (Nat.le_refl _) _
  have an := Srl.after au
  have aO := Srh.after au
  have B0 : Box (w.alloc (.cells #[.int .u8 r, .bool false, .bool false, .slice bs 0 bm, .bool false, .bool false, .slice bu bg bt] 27 (0, 0))) w.heap.size 27 #[.int .u8 r, .bool false, .bool false, .slice bs 0 bm, .bool false, .bool false, .slice bu bg bt] := Box.new _ _ _
  have q : mayB ⟨r, ⟨false, false, bU⟩, ⟨false, false, bZ⟩⟩ = (isO r && true && false) := by show (isO r && endB r _ && endB r _) = _; rw [el, eh]
  rw [q]
  clear q el eh
  rcases aZ r with ⟨o1, o2⟩ | ⟨o1, o3, o2⟩ | ⟨o1, o3, o2⟩
  all_goals
   rw [o2]
   clear o2
   go_enter Tryz.func50, Tryz.ntmps50
   go_wp2_with fail
   go_ret
   exact ⟨rfl, au⟩
theorem tR (r : Nat) (bV a7 : Bool) (bs : Option Addr) (bi bm : Nat) (bU : List UInt8) (bW bf : Bool) (bu : Option Addr) (bg bt : Nat) (bZ : List UInt8) (w : World) (Srl : Sl w bs bi bm bU) (_Nrl : bi ≤ 6000) (Srh : Sl w bu bg bt bZ) (Nrh : bg ≤ 6000) (hw : (bV = false ∧ a7 = false ∧ ((bi : Int) == 0) = false ∧ endB r ⟨bV, a7, bU⟩ = false)) :
  Calls Tryz.prog 50 #[.agg #[.int .u8 r, .bool bV, .bool a7, .slice bs bi bm, .bool bW, .bool bf, .slice bu bg bt]] w fun e w' => e = .returned (.bool (mayB ⟨r, ⟨bV, a7, bU⟩, ⟨bW, bf, bZ⟩⟩)) ∧ Below w.heap.size w w' := by
 obtain ⟨rfl, rfl, zl, el⟩ := hw
 rcases gq r bW bf bg bZ Srh.1 with ⟨rfl, vh, eh⟩ | ⟨rfl, vh, eh⟩ | ⟨rfl, rfl, eh⟩ | ⟨rfl, rfl, rfl, eh⟩ | ⟨rfl, rfl, zh, eh⟩
 ·have au : Below w.heap.size w (w.alloc (.cells #[.int .u8 r, .bool false, .bool false, .slice bs bi bm, .bool true, .bool bf, .slice bu bg bt] 27 (0, 0))) := (Below.refl _ _).alloc (Nat.le_refl _) _
  have an := Srl.after au
  have aO := Srh.after au
  have B0 : Box (w.alloc (.cells #[.int .u8 r, .bool false, .bool false, .slice bs bi bm, .bool true, .bool bf, .slice bu bg bt] 27 (0, 0))) w.heap.size 27 #[.int .u8 r, .bool false, .bool false, .slice bs bi bm, .bool true, .bool bf, .slice bu bg bt] := Box.new _ _ _
  have q : mayB ⟨r, ⟨false, false, bU⟩, ⟨true, bf, bZ⟩⟩ = (isO r && false && true) := by show (isO r && endB r _ && endB r _) = _; rw [el, eh]
  rw [q]
  clear q el eh
  rcases aZ r with ⟨o1, o2⟩ | ⟨o1, o3, o2⟩ | ⟨o1, o3, o2⟩
  all_goals
   rw [o2]
   clear o2
   go_enter Tryz.func50, Tryz.ntmps50
   go_wp2_with fail
   refine (aM _ _ _ _ _ _ (aO) Nrh).mono ?_
   rintro e w2 ⟨rfl, hbw2⟩
   rw [vh]
   have bE := au.trans (hbw2.mono au.size)
   have B2 := B0.after hbw2
   have d0 := B2.cell 0 rfl
   have d1 := B2.cell 1 rfl
   have d2 := B2.cell 2 rfl
   have d3 := B2.cell 3 rfl
   have d4 := B2.cell 4 rfl
   have d5 := B2.cell 5 rfl
   have d6 := B2.cell 6 rfl
   go_wp2_with fail
   go_ret
   exact ⟨rfl, bE⟩
 ·have au : Below w.heap.size w (w.alloc (.cells #[.int .u8 r, .bool false, .bool false, .slice bs bi bm, .bool true, .bool bf, .slice bu bg bt] 27 (0, 0))) := (Below.refl _ _).alloc (Nat.le_refl _) _
  have an := Srl.after au
  have aO := Srh.after au
  have B0 : Box (w.alloc (.cells #[.int .u8 r, .bool false, .bool false, .slice bs bi bm, .bool true, .bool bf, .slice bu bg bt] 27 (0, 0))) w.heap.size 27 #[.int .u8 r, .bool false, .bool false, .slice bs bi bm, .bool true, .bool bf, .slice bu bg bt] := Box.new _ _ _
  have q : mayB ⟨r, ⟨false, false, bU⟩, ⟨true, bf, bZ⟩⟩ = (isO r && false && false) := by show (isO r && endB r _ && endB r _) = _; rw [el, eh]
  rw [q]
  clear q el eh
  rcases aZ r with ⟨o1, o2⟩ | ⟨o1, o3, o2⟩ | ⟨o1, o3, o2⟩
  all_goals
   rw [o2]
   clear o2
   go_enter Tryz.func50, Tryz.ntmps50
   go_wp2_with fail
   refine (aM _ _ _ _ _ _ (aO) Nrh).mono ?_
   rintro e w2 ⟨rfl, hbw2⟩
   rw [vh]
   have bE := au.trans (hbw2.mono au.size)
   have B2 := B0.after hbw2
   have d0 := B2.cell 0 rfl
   have d1 := B2.cell 1 rfl
   have d2 := B2.cell 2 rfl
   have d3 := B2.cell 3 rfl
   have d4 := B2.cell 4 rfl
   have d5 := B2.cell 5 rfl
   have d6 := B2.cell 6 rfl
   go_wp2_with fail
   go_ret
   exact ⟨rfl, bE⟩
 ·have au : Below w.heap.size w (w.alloc (.cells #[.int .u8 r, .bool false, .bool false, .slice bs bi bm, .bool false, .bool true, .slice bu bg bt] 27 (0, 0))) := (Below.refl _ _).alloc (Nat.le_refl _) _
  have an := Srl.after au
  have aO := Srh.after au
  have B0 : Box (w.alloc (.cells #[.int .u8 r, .bool false, .bool false, .slice bs bi bm, .bool false, .bool true, .slice bu bg bt] 27 (0, 0))) w.heap.size 27 #[.int .u8 r, .bool false, .bool false, .slice bs bi bm, .bool false, .bool true, .slice bu bg bt] := Box.new _ _ _
  have q : mayB ⟨r, ⟨false, false, bU⟩, ⟨false, true, bZ⟩⟩ = (isO r && false && false) := by show (isO r && endB r _ && endB r _) = _; rw [el, eh]
  rw [q]
  clear q el eh
  rcases aZ r with ⟨o1, o2⟩ | ⟨o1, o3, o2⟩ | ⟨o1, o3, o2⟩
  all_goals
   rw [o2]
   clear o2
   go_enter Tryz.func50, Tryz.ntmps50
   go_wp2_with fail
   go_ret
   exact ⟨rfl, au⟩
 ·have au : Below w.heap.size w (w.alloc (.cells #[.int .u8 r, .bool false, .bool false, .slice bs bi bm, .bool false, .bool false, .slice bu 0 bt] 27 (0, 0))) := (Below.refl _ _).alloc (Nat.le_refl _) _
  have an := Srl.after au
  have aO := Srh.after au
  have B0 : Box (w.alloc (.cells #[.int .u8 r, .bool false, .bool false, .slice bs bi bm, .bool false, .bool false, .slice bu 0 bt] 27 (0, 0))) w.heap.size 27 #[.int .u8 r, .bool false, .bool false, .slice bs bi bm, .bool false, .bool false, .slice bu 0 bt] := Box.new _ _ _
  have q : mayB ⟨r, ⟨false, false, bU⟩, ⟨false, false, bZ⟩⟩ = (isO r && false && true) := by show (isO r && endB r _ && endB r _) = _; rw [el, eh]
  rw [q]
  clear q el eh
  rcases aZ r with ⟨o1, o2⟩ | ⟨o1, o3, o2⟩ | ⟨o1, o3, o2⟩
  all_goals
   rw [o2]
   clear o2
   go_enter Tryz.func50, Tryz.ntmps50
   go_wp2_with fail
   go_ret
   exact ⟨rfl, au⟩
 ·have au : Below w.heap.size w (w.alloc (.cells #[.int .u8 r, .bool false, .bool false, .slice bs bi bm, .bool false, .bool false, .slice bu bg bt] 27 (0, 0))) := (Below.refl _ _).alloc (Nat.le_refl _) _
  have an := Srl.after au
  have aO := Srh.after au
  have B0 : Box (w.alloc (.cells #[.int .u8 r, .bool false, .bool false, .slice bs bi bm, .bool false, .bool false, .slice bu bg bt] 27 (0, 0))) w.heap.size 27 #[.int .u8 r, .bool false, .bool false, .slice bs bi bm, .bool false, .bool false, .slice bu bg bt] := Box.new _ _ _
  have q : mayB ⟨r, ⟨false, false, bU⟩, ⟨false, false, bZ⟩⟩ = (isO r && false && false) := by show (isO r && endB r _ && endB r _) = _; rw [el, eh]
  rw [q]
  clear q el eh
  rcases aZ r with ⟨o1, o2⟩ | ⟨o1, o3, o2⟩ | ⟨o1, o3, o2⟩
  all_goals
   rw [o2]
   clear o2
   go_enter Tryz.func50, Tryz.ntmps50
   go_wp2_with fail
   go_ret
   exact ⟨rfl, au⟩
theorem aW (r : Nat) (bV a7 : Bool) (bs : Option Addr) (bi bm : Nat) (bU : List UInt8) (bW bf : Bool) (bu : Option Addr) (bg bt : Nat) (bZ : List UInt8) (w : World) (Srl : Sl w bs bi bm bU) (Nrl : bi ≤ 6000) (Srh : Sl w bu bg bt bZ) (Nrh : bg ≤ 6000) :
  Calls Tryz.prog 50 #[.agg #[.int .u8 r, .bool bV, .bool a7, .slice bs bi bm, .bool bW, .bool bf, .slice bu bg bt]] w fun e w' => e = .returned (.bool (mayB ⟨r, ⟨bV, a7, bU⟩, ⟨bW, bf, bZ⟩⟩)) ∧ Below w.heap.size w w' := by
 rcases gq r bV a7 bi bU Srl.1 with h | h | h | h | h
 ·exact tO _ _ _ _ _ _ _ _ _ _ _ _ _ _ Srl Nrl Srh Nrh h
 ·exact tP _ _ _ _ _ _ _ _ _ _ _ _ _ _ Srl Nrl Srh Nrh h
 ·exact tQ _ _ _ _ _ _ _ _ _ _ _ _ _ _ Srl Nrl Srh Nrh h
 ·exact tS _ _ _ _ _ _ _ _ _ _ _ _ _ _ Srl Nrl Srh Nrh h
 ·exact tR _ _ _ _ _ _ _ _ _ _ _ _ _ _ Srl Nrl Srh Nrh h
end Go.Proofs.YtmmkaclmgnpplaaGreatDoor

/- The document's May of principals and of windows. -/
import Derived.Test.YticjhogofoffmaaDoorCr9
namespace Go.Proofs.YticjhogofoffmaaDoor
open Go.RowKit
set_option linter.unusedSimpArgs false
set_option linter.unusedVariables false

set_option maxHeartbeats 4000000 in
set_option maxRecDepth 100000 in
theorem refKeyMay_any (s : Bool) (a : Option Addr) (n c : Nat) (w : World) (hn : n ≤ 1000000) : Calls Tryd.prog 18 #[.agg #[.bool s, .slice a n c]] w fun e w' => e = .returned (.bool (keyMay s n)) ∧ Below w.heap.size w w' := by
  have B0 : Below w.heap.size w (w.alloc (.cells #[.bool s, .slice a n c] 24)) := (Below.refl _ _).alloc (Nat.le_refl _) _
  have X0 := Box.new w 24 #[.bool s, .slice a n c]
  have x0 := X0.cell 0 rfl
  have x1 := X0.cell 1 rfl
  clear X0
  generalize hr : keyMay s n = r
  unfold keyMay at hr
  have HR := Lib.hid hr
  clear hr
  cases s with
  | false =>
    by_cases h : n = 32
    · subst h
      go_enter Tryd.func18, Tryd.ntmps18
      go_wp2_with fail
      go_ret
      exact ⟨by rw [← HR.out]; simp, B0⟩
    · have hq : ((n : Int) == 32) = false := by simp; omega
      go_enter Tryd.func18, Tryd.ntmps18
      go_wp2_with fail
      go_ret
      exact ⟨by rw [← HR.out]; simp [h], B0⟩
  | true =>
    by_cases h : n = 64
    · subst h
      go_enter Tryd.func18, Tryd.ntmps18
      go_wp2_with fail
      go_ret
      exact ⟨by rw [← HR.out]; simp, B0⟩
    · have hq : ((n : Int) == 64) = false := by simp; omega
      go_enter Tryd.func18, Tryd.ntmps18
      go_wp2_with fail
      go_ret
      exact ⟨by rw [← HR.out]; simp [h], B0⟩

set_option maxHeartbeats 8000000 in
set_option maxRecDepth 100000 in
theorem refWinMay_any (p : Bool) (f : Int) (q : Bool) (u : Int) (w : World) : Calls Tryd.prog 19 #[.agg #[.bool p, .int .i64 f, .bool q, .int .i64 u]] w fun e w' => e = .returned (.bool (winMay p f q u)) ∧ Below w.heap.size w w' := by
  have B0 : Below w.heap.size w (w.alloc (.cells #[.bool p, .int .i64 f, .bool q, .int .i64 u] 27)) := (Below.refl _ _).alloc (Nat.le_refl _) _
  have X0 := Box.new w 27 #[.bool p, .int .i64 f, .bool q, .int .i64 u]
  have x0 := X0.cell 0 rfl
  have x1 := X0.cell 1 rfl
  have x2 := X0.cell 2 rfl
  have x3 := X0.cell 3 rfl
  clear X0
  generalize hr : winMay p f q u = r
  unfold winMay at hr
  have HR := Lib.hid hr
  clear hr
  cases p with
  | true =>
    by_cases g1E1 : 0 ≤ f
    · by_cases g2E1 : f < 315569520000
      · have E1 : Hid (sideB true f = true) := Lib.hid (by unfold sideB; simp only [if_true]; exact decide_eq_true (by omega))
        cases q with
        | true =>
          by_cases g1E2 : 0 ≤ u
          · by_cases g2E2 : u < 315569520000
            · have E2 : Hid (sideB true u = true) := Lib.hid (by unfold sideB; simp only [if_true]; exact decide_eq_true (by omega))
              go_enter Tryd.func19, Tryd.ntmps19
              go_wp2_with fail
              go_ret
              exact ⟨by rw [← HR.out]; simp only [E1.out, E2.out]; first | rfl | simp, B0⟩
            · have E2 : Hid (sideB true u = false) := Lib.hid (by unfold sideB; simp only [if_true]; exact decide_eq_false (by omega))
              go_enter Tryd.func19, Tryd.ntmps19
              go_wp2_with fail
              go_ret
              exact ⟨by rw [← HR.out]; simp only [E1.out, E2.out]; first | rfl | simp, B0⟩
          · have E2 : Hid (sideB true u = false) := Lib.hid (by unfold sideB; simp only [if_true]; exact decide_eq_false (by omega))
            go_enter Tryd.func19, Tryd.ntmps19
            go_wp2_with fail
            go_ret
            exact ⟨by rw [← HR.out]; simp only [E1.out, E2.out]; first | rfl | simp, B0⟩
        | false =>
          by_cases g3E2 : u = 0
          · subst g3E2
            have E2 : Hid (sideB false 0 = true) := Lib.hid rfl
            go_enter Tryd.func19, Tryd.ntmps19
            go_wp2_with fail
            go_ret
            exact ⟨by rw [← HR.out]; simp only [E1.out, E2.out]; first | rfl | simp, B0⟩
          · have E2 : Hid (sideB false u = false) := Lib.hid (by unfold sideB; simp [g3E2])
            have g4E2 : (u == 0) = false := by simp [g3E2]
            go_enter Tryd.func19, Tryd.ntmps19
            go_wp2_with fail
            go_ret
            exact ⟨by rw [← HR.out]; simp only [E1.out, E2.out]; first | rfl | simp, B0⟩
      · have E1 : Hid (sideB true f = false) := Lib.hid (by unfold sideB; simp only [if_true]; exact decide_eq_false (by omega))
        cases q with
        | true =>
          by_cases g1E2 : 0 ≤ u
          · by_cases g2E2 : u < 315569520000
            · have E2 : Hid (sideB true u = true) := Lib.hid (by unfold sideB; simp only [if_true]; exact decide_eq_true (by omega))
              go_enter Tryd.func19, Tryd.ntmps19
              go_wp2_with fail
              go_ret
              exact ⟨by rw [← HR.out]; simp only [E1.out, E2.out]; first | rfl | simp, B0⟩
            · have E2 : Hid (sideB true u = false) := Lib.hid (by unfold sideB; simp only [if_true]; exact decide_eq_false (by omega))
              go_enter Tryd.func19, Tryd.ntmps19
              go_wp2_with fail
              go_ret
              exact ⟨by rw [← HR.out]; simp only [E1.out, E2.out]; first | rfl | simp, B0⟩
          · have E2 : Hid (sideB true u = false) := Lib.hid (by unfold sideB; simp only [if_true]; exact decide_eq_false (by omega))
            go_enter Tryd.func19, Tryd.ntmps19
            go_wp2_with fail
            go_ret
            exact ⟨by rw [← HR.out]; simp only [E1.out, E2.out]; first | rfl | simp, B0⟩
        | false =>
          by_cases g3E2 : u = 0
          · subst g3E2
            have E2 : Hid (sideB false 0 = true) := Lib.hid rfl
            go_enter Tryd.func19, Tryd.ntmps19
            go_wp2_with fail
            go_ret
            exact ⟨by rw [← HR.out]; simp only [E1.out, E2.out]; first | rfl | simp, B0⟩
          · have E2 : Hid (sideB false u = false) := Lib.hid (by unfold sideB; simp [g3E2])
            have g4E2 : (u == 0) = false := by simp [g3E2]
            go_enter Tryd.func19, Tryd.ntmps19
            go_wp2_with fail
            go_ret
            exact ⟨by rw [← HR.out]; simp only [E1.out, E2.out]; first | rfl | simp, B0⟩
    · have E1 : Hid (sideB true f = false) := Lib.hid (by unfold sideB; simp only [if_true]; exact decide_eq_false (by omega))
      cases q with
      | true =>
        by_cases g1E2 : 0 ≤ u
        · by_cases g2E2 : u < 315569520000
          · have E2 : Hid (sideB true u = true) := Lib.hid (by unfold sideB; simp only [if_true]; exact decide_eq_true (by omega))
            go_enter Tryd.func19, Tryd.ntmps19
            go_wp2_with fail
            go_ret
            exact ⟨by rw [← HR.out]; simp only [E1.out, E2.out]; first | rfl | simp, B0⟩
          · have E2 : Hid (sideB true u = false) := Lib.hid (by unfold sideB; simp only [if_true]; exact decide_eq_false (by omega))
            go_enter Tryd.func19, Tryd.ntmps19
            go_wp2_with fail
            go_ret
            exact ⟨by rw [← HR.out]; simp only [E1.out, E2.out]; first | rfl | simp, B0⟩
        · have E2 : Hid (sideB true u = false) := Lib.hid (by unfold sideB; simp only [if_true]; exact decide_eq_false (by omega))
          go_enter Tryd.func19, Tryd.ntmps19
          go_wp2_with fail
          go_ret
          exact ⟨by rw [← HR.out]; simp only [E1.out, E2.out]; first | rfl | simp, B0⟩
      | false =>
        by_cases g3E2 : u = 0
        · subst g3E2
          have E2 : Hid (sideB false 0 = true) := Lib.hid rfl
          go_enter Tryd.func19, Tryd.ntmps19
          go_wp2_with fail
          go_ret
          exact ⟨by rw [← HR.out]; simp only [E1.out, E2.out]; first | rfl | simp, B0⟩
        · have E2 : Hid (sideB false u = false) := Lib.hid (by unfold sideB; simp [g3E2])
          have g4E2 : (u == 0) = false := by simp [g3E2]
          go_enter Tryd.func19, Tryd.ntmps19
          go_wp2_with fail
          go_ret
          exact ⟨by rw [← HR.out]; simp only [E1.out, E2.out]; first | rfl | simp, B0⟩
  | false =>
    by_cases g3E1 : f = 0
    · subst g3E1
      have E1 : Hid (sideB false 0 = true) := Lib.hid rfl
      cases q with
      | true =>
        by_cases g1E2 : 0 ≤ u
        · by_cases g2E2 : u < 315569520000
          · have E2 : Hid (sideB true u = true) := Lib.hid (by unfold sideB; simp only [if_true]; exact decide_eq_true (by omega))
            go_enter Tryd.func19, Tryd.ntmps19
            go_wp2_with fail
            go_ret
            exact ⟨by rw [← HR.out]; simp only [E1.out, E2.out]; first | rfl | simp, B0⟩
          · have E2 : Hid (sideB true u = false) := Lib.hid (by unfold sideB; simp only [if_true]; exact decide_eq_false (by omega))
            go_enter Tryd.func19, Tryd.ntmps19
            go_wp2_with fail
            go_ret
            exact ⟨by rw [← HR.out]; simp only [E1.out, E2.out]; first | rfl | simp, B0⟩
        · have E2 : Hid (sideB true u = false) := Lib.hid (by unfold sideB; simp only [if_true]; exact decide_eq_false (by omega))
          go_enter Tryd.func19, Tryd.ntmps19
          go_wp2_with fail
          go_ret
          exact ⟨by rw [← HR.out]; simp only [E1.out, E2.out]; first | rfl | simp, B0⟩
      | false =>
        by_cases g3E2 : u = 0
        · subst g3E2
          have E2 : Hid (sideB false 0 = true) := Lib.hid rfl
          go_enter Tryd.func19, Tryd.ntmps19
          go_wp2_with fail
          go_ret
          exact ⟨by rw [← HR.out]; simp only [E1.out, E2.out]; first | rfl | simp, B0⟩
        · have E2 : Hid (sideB false u = false) := Lib.hid (by unfold sideB; simp [g3E2])
          have g4E2 : (u == 0) = false := by simp [g3E2]
          go_enter Tryd.func19, Tryd.ntmps19
          go_wp2_with fail
          go_ret
          exact ⟨by rw [← HR.out]; simp only [E1.out, E2.out]; first | rfl | simp, B0⟩
    · have E1 : Hid (sideB false f = false) := Lib.hid (by unfold sideB; simp [g3E1])
      have g4E1 : (f == 0) = false := by simp [g3E1]
      cases q with
      | true =>
        by_cases g1E2 : 0 ≤ u
        · by_cases g2E2 : u < 315569520000
          · have E2 : Hid (sideB true u = true) := Lib.hid (by unfold sideB; simp only [if_true]; exact decide_eq_true (by omega))
            go_enter Tryd.func19, Tryd.ntmps19
            go_wp2_with fail
            go_ret
            exact ⟨by rw [← HR.out]; simp only [E1.out, E2.out]; first | rfl | simp, B0⟩
          · have E2 : Hid (sideB true u = false) := Lib.hid (by unfold sideB; simp only [if_true]; exact decide_eq_false (by omega))
            go_enter Tryd.func19, Tryd.ntmps19
            go_wp2_with fail
            go_ret
            exact ⟨by rw [← HR.out]; simp only [E1.out, E2.out]; first | rfl | simp, B0⟩
        · have E2 : Hid (sideB true u = false) := Lib.hid (by unfold sideB; simp only [if_true]; exact decide_eq_false (by omega))
          go_enter Tryd.func19, Tryd.ntmps19
          go_wp2_with fail
          go_ret
          exact ⟨by rw [← HR.out]; simp only [E1.out, E2.out]; first | rfl | simp, B0⟩
      | false =>
        by_cases g3E2 : u = 0
        · subst g3E2
          have E2 : Hid (sideB false 0 = true) := Lib.hid rfl
          go_enter Tryd.func19, Tryd.ntmps19
          go_wp2_with fail
          go_ret
          exact ⟨by rw [← HR.out]; simp only [E1.out, E2.out]; first | rfl | simp, B0⟩
        · have E2 : Hid (sideB false u = false) := Lib.hid (by unfold sideB; simp [g3E2])
          have g4E2 : (u == 0) = false := by simp [g3E2]
          go_enter Tryd.func19, Tryd.ntmps19
          go_wp2_with fail
          go_ret
          exact ⟨by rw [← HR.out]; simp only [E1.out, E2.out]; first | rfl | simp, B0⟩

end Go.Proofs.YticjhogofoffmaaDoor

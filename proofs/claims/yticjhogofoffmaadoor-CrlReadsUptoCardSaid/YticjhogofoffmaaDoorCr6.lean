/- Is a second in a window? -/
import Derived.Test.YticjhogofoffmaaDoorCr5
namespace Go.Proofs.YticjhogofoffmaaDoor
open Go.RowKit
set_option linter.unusedSimpArgs false
set_option linter.unusedVariables false

def winIn (p : Bool) (f : Int) (q : Bool) (u t : Int) : Bool := (!p || decide (f ≤ t)) && (!q || decide (t ≤ u))

set_option maxHeartbeats 4000000 in
set_option maxRecDepth 100000 in
theorem winIn_any (p : Bool) (f : Int) (q : Bool) (u t : Int) (w : World) : Calls Tryd.prog 22 #[.agg #[.bool p, .int .i64 f, .bool q, .int .i64 u], .int .i64 t] w fun e w' => e = .returned (.bool (winIn p f q u t)) ∧ Below w.heap.size w w' := by
  have B0 : Below w.heap.size w (w.alloc (.cells #[.bool p, .int .i64 f, .bool q, .int .i64 u] 27)) := (Below.refl _ _).alloc (Nat.le_refl _) _
  have X0 := Box.new w 27 #[.bool p, .int .i64 f, .bool q, .int .i64 u]
  have x0 := X0.cell 0 rfl
  have x1 := X0.cell 1 rfl
  have x2 := X0.cell 2 rfl
  have x3 := X0.cell 3 rfl
  clear X0
  generalize hr : winIn p f q u t = r
  unfold winIn at hr
  have HR := Lib.hid hr
  clear hr
  cases p with
  | false =>
    cases q with
    | false =>
      go_enter Tryd.func22, Tryd.ntmps22
      go_wp2_with fail
      go_ret
      exact ⟨by rw [← HR.out]; simp <;> omega, B0⟩
    | true =>
      by_cases h2 : t ≤ u
      · go_enter Tryd.func22, Tryd.ntmps22
        go_wp2_with fail
        go_ret
        exact ⟨by rw [← HR.out]; simp <;> omega, B0⟩
      · go_enter Tryd.func22, Tryd.ntmps22
        go_wp2_with fail
        go_ret
        exact ⟨by rw [← HR.out]; simp <;> omega, B0⟩
  | true =>
    cases q with
    | false =>
      by_cases h1 : f ≤ t
      · go_enter Tryd.func22, Tryd.ntmps22
        go_wp2_with fail
        go_ret
        exact ⟨by rw [← HR.out]; simp <;> omega, B0⟩
      · go_enter Tryd.func22, Tryd.ntmps22
        go_wp2_with fail
        go_ret
        exact ⟨by rw [← HR.out]; simp <;> omega, B0⟩
    | true =>
      by_cases h1 : f ≤ t
      · by_cases h2 : t ≤ u
        · go_enter Tryd.func22, Tryd.ntmps22
          go_wp2_with fail
          go_ret
          exact ⟨by rw [← HR.out]; simp <;> omega, B0⟩
        · go_enter Tryd.func22, Tryd.ntmps22
          go_wp2_with fail
          go_ret
          exact ⟨by rw [← HR.out]; simp <;> omega, B0⟩
      · by_cases h2 : t ≤ u
        · go_enter Tryd.func22, Tryd.ntmps22
          go_wp2_with fail
          go_ret
          exact ⟨by rw [← HR.out]; simp <;> omega, B0⟩
        · go_enter Tryd.func22, Tryd.ntmps22
          go_wp2_with fail
          go_ret
          exact ⟨by rw [← HR.out]; simp <;> omega, B0⟩

set_option maxHeartbeats 4000000 in
set_option maxRecDepth 100000 in
theorem refIn_any (p : Bool) (f : Int) (q : Bool) (u t : Int) (w : World) : Calls Tryd.prog 11 #[.agg #[.bool p, .int .i64 f, .bool q, .int .i64 u], .int .i64 t] w fun e w' => e = .returned (.bool (winIn p f q u t)) ∧ Below w.heap.size w w' := by
  have B0 : Below w.heap.size w (w.alloc (.cells #[.bool p, .int .i64 f, .bool q, .int .i64 u] 27)) := (Below.refl _ _).alloc (Nat.le_refl _) _
  have X0 := Box.new w 27 #[.bool p, .int .i64 f, .bool q, .int .i64 u]
  have x0 := X0.cell 0 rfl
  have x1 := X0.cell 1 rfl
  have x2 := X0.cell 2 rfl
  have x3 := X0.cell 3 rfl
  clear X0
  generalize hr : winIn p f q u t = r
  unfold winIn at hr
  have HR := Lib.hid hr
  clear hr
  cases p with
  | false =>
    cases q with
    | false =>
      go_enter Tryd.func11, Tryd.ntmps11
      go_wp2_with fail
      go_ret
      exact ⟨by rw [← HR.out]; simp <;> omega, B0⟩
    | true =>
      by_cases h2 : t ≤ u
      · go_enter Tryd.func11, Tryd.ntmps11
        go_wp2_with fail
        go_ret
        exact ⟨by rw [← HR.out]; simp <;> omega, B0⟩
      · go_enter Tryd.func11, Tryd.ntmps11
        go_wp2_with fail
        go_ret
        exact ⟨by rw [← HR.out]; simp <;> omega, B0⟩
  | true =>
    cases q with
    | false =>
      by_cases h1 : f ≤ t
      · go_enter Tryd.func11, Tryd.ntmps11
        go_wp2_with fail
        go_ret
        exact ⟨by rw [← HR.out]; simp <;> omega, B0⟩
      · go_enter Tryd.func11, Tryd.ntmps11
        go_wp2_with fail
        go_ret
        exact ⟨by rw [← HR.out]; simp <;> omega, B0⟩
    | true =>
      by_cases h1 : f ≤ t
      · by_cases h2 : t ≤ u
        · go_enter Tryd.func11, Tryd.ntmps11
          go_wp2_with fail
          go_ret
          exact ⟨by rw [← HR.out]; simp <;> omega, B0⟩
        · go_enter Tryd.func11, Tryd.ntmps11
          go_wp2_with fail
          go_ret
          exact ⟨by rw [← HR.out]; simp <;> omega, B0⟩
      · by_cases h2 : t ≤ u
        · go_enter Tryd.func11, Tryd.ntmps11
          go_wp2_with fail
          go_ret
          exact ⟨by rw [← HR.out]; simp <;> omega, B0⟩
        · go_enter Tryd.func11, Tryd.ntmps11
          go_wp2_with fail
          go_ret
          exact ⟨by rw [← HR.out]; simp <;> omega, B0⟩

end Go.Proofs.YticjhogofoffmaaDoor

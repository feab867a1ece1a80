/- Windows: an end may be, a window may be; the window without ends, put. -/
import Derived.Test.YticjhogofoffmaaDoorCr1
namespace Go.Proofs.YticjhogofoffmaaDoor
open Go.RowKit
set_option linter.unusedSimpArgs false
set_option linter.unusedVariables false

/-- may an end be? -/
def sideB (p : Bool) (n : Int) : Bool := if p then decide (0 ≤ n ∧ n < 315569520000) else decide (n = 0)
def winMay (p : Bool) (f : Int) (q : Bool) (t : Int) : Bool := sideB p f && sideB q t

set_option maxHeartbeats 4000000 in
set_option maxRecDepth 100000 in
theorem side_any (p : Bool) (n : Int) (w : World) : Calls Tryd.prog 64 #[.bool p, .int .i64 n] w fun e w' => e = .returned (.bool (sideB p n)) ∧ Below w.heap.size w w' := by
  by_cases hv : 0 ≤ n ∧ n < 315569520000
  · have hv2 := hv
    cases p with
    | true =>
      have hr : sideB true n = true := by unfold sideB; simp only [if_true]; exact decide_eq_true hv
      rw [hr]
      clear hr
      go_enter Tryd.func64, Tryd.ntmps64
      go_wp2_with fail
      refine (Put_yes n w hv.1 hv.2).mono ?_
      rintro e w1 ⟨y, m, d, r, rfl, h1, h2, h3, h4, h5, h6, h7, hb⟩
      generalize (⟨(fmtD y m d r).toArray⟩ : ByteArray) = txt
      clear h1 h2 h3 h4 h5 h6 h7
      go_wp2_with fail
      go_ret
      exact ⟨rfl, hb⟩
    | false =>
      by_cases hz : n = 0
      · subst hz
        have hr : sideB false 0 = true := rfl
        rw [hr]
        clear hr
        go_enter Tryd.func64, Tryd.ntmps64
        go_wp2_with fail
        refine (Put_yes 0 w (by omega) (by omega)).mono ?_
        rintro e w1 ⟨y, m, d, r, rfl, h1, h2, h3, h4, h5, h6, h7, hb⟩
        generalize (⟨(fmtD y m d r).toArray⟩ : ByteArray) = txt
        clear h1 h2 h3 h4 h5 h6 h7
        go_wp2_with fail
        go_ret
        exact ⟨rfl, hb⟩
      · have hr : sideB false n = false := by unfold sideB; simp [hz]
        have hq : (n == 0) = false := by simp [hz]
        rw [hr]
        clear hr
        go_enter Tryd.func64, Tryd.ntmps64
        go_wp2_with fail
        refine (Put_yes n w hv.1 hv.2).mono ?_
        rintro e w1 ⟨y, m, d, r, rfl, h1, h2, h3, h4, h5, h6, h7, hb⟩
        generalize (⟨(fmtD y m d r).toArray⟩ : ByteArray) = txt
        clear h1 h2 h3 h4 h5 h6 h7
        clear hv hz
        go_wp2_with fail
        go_ret
        exact ⟨rfl, hb⟩
  · skip
    cases p with
    | true =>
      have hr : sideB true n = false := by unfold sideB; simp only [if_true]; exact decide_eq_false hv
      rw [hr]
      clear hr
      go_enter Tryd.func64, Tryd.ntmps64
      go_wp2_with fail
      refine (Put_no n w (by omega)).mono ?_
      rintro e w1 ⟨rfl, rfl⟩

      go_wp2_with fail
      go_ret
      exact ⟨rfl, Below.refl _ _⟩
    | false =>
      by_cases hz : n = 0
      · omega
      · have hr : sideB false n = false := by unfold sideB; simp [hz]
        have hq : (n == 0) = false := by simp [hz]
        rw [hr]
        clear hr
        go_enter Tryd.func64, Tryd.ntmps64
        go_wp2_with fail
        refine (Put_no n w (by omega)).mono ?_
        rintro e w1 ⟨rfl, rfl⟩

        clear hv hz
        go_wp2_with fail
        go_ret
        exact ⟨rfl, Below.refl _ _⟩

set_option maxHeartbeats 4000000 in
set_option maxRecDepth 100000 in
theorem winMay_any (p : Bool) (f : Int) (q : Bool) (t : Int) (w : World) : Calls Tryd.prog 53 #[.agg #[.bool p, .int .i64 f, .bool q, .int .i64 t]] w fun e w' => e = .returned (.bool (winMay p f q t)) ∧ Below w.heap.size w w' := by
  have B0 : Below w.heap.size w (w.alloc (.cells #[.bool p, .int .i64 f, .bool q, .int .i64 t] 27)) := (Below.refl _ _).alloc (Nat.le_refl _) _
  have X0 := Box.new w 27 #[.bool p, .int .i64 f, .bool q, .int .i64 t]
  have C1 := Lib.hid (fun w' => side_any p f w')
  have C2 := Lib.hid (fun w' => side_any q t w')
  unfold winMay
  obtain ⟨r1, h1⟩ : ∃ r, r = sideB p f := ⟨_, rfl⟩
  obtain ⟨r2, h2⟩ : ∃ r, r = sideB q t := ⟨_, rfl⟩
  rw [← h1] at C1 ⊢
  rw [← h2] at C2 ⊢
  clear h1 h2
  go_enter Tryd.func53, Tryd.ntmps53
  go_upto_region 1 with fail
  change Code.wp _ _ _ _ (w.alloc (.cells #[.bool p, .int .i64 f, .bool q, .int .i64 t] 27))
  generalize w.alloc (.cells #[.bool p, .int .i64 f, .bool q, .int .i64 t] 27) = v0 at *
  have x0 := X0.cell 0 rfl
  have x1 := X0.cell 1 rfl
  have HX := Lib.hid X0
  clear X0
  go_wp2_with fail
  refine (C1.out v0).mono ?_
  rintro e w1 ⟨rfl, hb1⟩
  have B1 := B0.trans (hb1.mono B0.size)
  have x2 := (HX.out.after hb1).cell 2 rfl
  have x3 := (HX.out.after hb1).cell 3 rfl
  clear B0 hb1 HX x0 x1
  cases r1 with
  | false =>
    go_wp2_with fail
    go_ret
    exact ⟨rfl, B1⟩
  | true =>
    go_wp2_with fail
    refine (C2.out w1).mono ?_
    rintro e w2 ⟨rfl, hb2⟩
    have B2 := B1.trans (hb2.mono B1.size)
    clear B1 hb2 C1 C2 x2 x3
    go_wp2_with fail
    go_ret
    exact ⟨rfl, B2⟩

end Go.Proofs.YticjhogofoffmaaDoor

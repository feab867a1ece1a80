/- The document's Get: what it computes; awake. -/
import Derived.Test.YtjemnfiogekekaaNumGet
import Derived.Test.YtjemnfiogekekaaNumCmp
namespace Go.Proofs.Ytjemnfiogekekaa
open Go.RowKit

theorem zero_any (w : World) : Calls Try.prog 22 #[] w fun e w' => e = .returned (.float .f64 0) ∧ w = w' := by
  go_enter Try.func22, Try.ntmps22
  go_wp2_with fail
  go_ret
  exact ⟨rfl, rfl⟩

theorem run_nan (w : World) : ∃ v, isNan v = true ∧ (binOp .quo 24 (.float .f64 0) (.float .f64 0)).run Try.prog w = .ok (.float .f64 v) (w.drewN 1) := by
  have h : Ieee.double.div 0 0 = none := by decide
  refine ⟨(Question.nanBits .f64 0 0).cut (w.tape w.drawn (.nanBits .f64 0 0)), nan_asked _ _ _, ?_⟩
  have h2 : FloatKind.f64.format.div 0 0 = none := h
  simp only [binOp, Op.floatArith, h2]
  rfl

def awakeL : List UInt8 := [45, 50, 46, 53, 48]
theorem awake_val : getO awakeL = some 13836183955189006336 := by decide +kernel

set_option maxHeartbeats 1000000 in
set_option maxRecDepth 100000 in
theorem awake_any (w : World) :
    Calls Try.prog 8 #[] w fun e w' => e = .returned (.bool true) ∧ Below w.heap.size w w' := by
  have kc := fun (w : World) (C : Array Value) (n c : Nat) => Lib.run_convert_bytes_const (P := Try.prog) w 22 5 C n c Try.underlying22 Try.underlying5
  have h1 := Lib.hid awake_val
  have hs := Lib.hid (sl_lit w awakeL (5, 6) (by decide))
  have e1 : (FloatKind.f64.format.order 13836183955189006336 13836183955189006336 == some .eq) = true := by decide
  go_enter Try.func8, Try.ntmps8
  go_wp2_with fail
  refine (get_any _ _ _ awakeL _ hs.out (by decide)).mono ?_
  rintro e w1 ⟨rfl, hb⟩
  rw [h1.out]
  go_wp2_with fail
  go_ret
  exact ⟨rfl, ((Below.refl _ _).alloc (Nat.le_refl _) _).trans (hb.mono (by simp))⟩

theorem cmpI_swap (x y : Nat) : cmpI y x = - cmpI x y := by
  unfold cmpI
  rcases Int.lt_trichotomy (key x) (key y) with c | c | c
  · rw [if_neg (show ¬ key y < key x by omega), if_pos c, if_pos c]; rfl
  · rw [if_neg (show ¬ key y < key x by omega), if_neg (show ¬ key x < key y by omega), if_neg (show ¬ key x < key y by omega), if_neg (show ¬ key y < key x by omega)]; rfl
  · rw [if_pos c, if_neg (show ¬ key x < key y by omega), if_pos c]
theorem cmp_swap (x y : Nat) : cmpV y x = - cmpV x y ∧ cmpOk y x = cmpOk x y := by
  unfold cmpV cmpOk
  rw [Bool.or_comm (isNan y)]
  refine ⟨?_, rfl⟩
  split
  · rfl
  · exact cmpI_swap x y
theorem cmpV_bd (x y : Nat) : -1 ≤ cmpV x y ∧ cmpV x y ≤ 1 := by
  unfold cmpV cmpI; split
  · omega
  · split
    · omega
    · split <;> omega

set_option maxHeartbeats 2000000 in
set_option linter.unusedVariables false in
theorem NumberCompares_walk (x y : Nat) (w : World) (_ : (Lit.float .f64 x).wf = true) (_ : (Lit.float .f64 y).wf = true) :
    Calls Try.prog 6 #[.float .f64 x, .float .f64 y] w fun e w' => e = .returned (.bool true) ∧ Below w.heap.size w w' := by
  obtain ⟨c1, c2⟩ := cmp_swap x y
  obtain ⟨d1, d2⟩ := cmpV_bd x y
  have e1 : (FloatKind.f64.format.order x x == some .eq) = !isNan x := ord_self x
  have e2 : (FloatKind.f64.format.order y y == some .eq) = !isNan y := ord_self y
  have e3 : cmpOk x y = (!isNan x && !isNan y) := by unfold cmpOk; cases isNan x <;> cases isNan y <;> rfl
  have C1 := Lib.hid c1
  have C2 := Lib.hid c2
  have E3 := Lib.hid e3
  clear c1 c2 e3
  go_enter Try.func6, Try.ntmps6
  go_wp2_with fail
  refine (cmp_any x y _).mono ?_
  rintro e w1 ⟨rfl, rfl⟩
  go_wp2_with fail
  refine (refCmp_any x y _).mono ?_
  rintro e w1 ⟨rfl, rfl⟩
  go_wp2_with fail
  refine (cmp_any y x _).mono ?_
  rintro e w1 ⟨rfl, rfl⟩
  rw [C1.out, C2.out, E3.out]
  generalize cmpV x y = v at *
  clear C1 C2 E3
  generalize isNan x = p at *
  generalize isNan y = q at *
  cases p <;> cases q
  all_goals
    simp only [Bool.not_true, Bool.not_false] at e1 e2
    go_wp2_with fail
    refine (awake_any _).mono ?_
    rintro e w1 ⟨rfl, hb⟩
    go_wp2_with fail
    go_ret
    exact ⟨rfl, hb⟩
end Go.Proofs.Ytjemnfiogekekaa

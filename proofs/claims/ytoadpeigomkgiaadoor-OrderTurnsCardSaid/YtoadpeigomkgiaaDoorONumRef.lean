/- The document's Get: what it computes; awake. -/
import Derived.Test.YtoadpeigomkgiaaDoorNumGet
import Derived.Test.YtoadpeigomkgiaaDoorONumCmp
namespace Go.Proofs.YtoadpeigomkgiaaDoor
open Go.RowKit

theorem zero_any (w : World) : Calls Tryd.prog 45 #[] w fun e w' => e = .returned (.float .f64 0) ∧ w = w' := by
  go_enter Tryd.func45, Tryd.ntmps45
  go_wp2_with fail
  go_ret
  exact ⟨rfl, rfl⟩

theorem run_nan (w : World) : ∃ v, isNan v = true ∧ (binOp .quo 42 (.float .f64 0) (.float .f64 0)).run Tryd.prog w = .ok (.float .f64 v) (w.drewN 1) := by
  have h : Ieee.double.div 0 0 = none := by decide
  refine ⟨(Question.nanBits .f64 0 0).cut (w.tape w.drawn (.nanBits .f64 0 0)), nan_asked _ _ _, ?_⟩
  have h2 : FloatKind.f64.format.div 0 0 = none := h
  simp only [binOp, Op.floatArith, h2]
  rfl

def awakeL : List UInt8 := [45, 50, 46, 53, 48]
theorem awake_val : getO awakeL = some 13836183955189006336 := by decide +kernel

theorem cmpI_swap (x y : Nat) : cmpI y x = - cmpI x y := by
  unfold cmpI
  rcases Int.lt_trichotomy (key x) (key y) with c | c | c
  · rw [if_neg (show ¬ key y < key x by omega), if_pos c, if_pos c]; rfl
  · rw [if_neg (show ¬ key y < key x by omega), if_neg (show ¬ key x < key y by omega), if_neg (show ¬ key x < key y by omega), if_neg (show ¬ key y < key x by omega)]; rfl
  · rw [if_pos c, if_neg (show ¬ key x < key y by omega), if_pos c]
theorem cmp_swap (x y : Nat) : cmpV y x = - cmpV x y ∧ cmpOk y x = cmpOk x y := by
  unfold cmpV cmpOk
  rw [Bool.or_comm (isNan y)]
  refine ⟨?_, rfl⟩
  split
  · rfl
  · exact cmpI_swap x y
theorem cmpV_bd (x y : Nat) : -1 ≤ cmpV x y ∧ cmpV x y ≤ 1 := by
  unfold cmpV cmpI; split
  · omega
  · split
    · omega
    · split <;> omega

end Go.Proofs.YtoadpeigomkgiaaDoor

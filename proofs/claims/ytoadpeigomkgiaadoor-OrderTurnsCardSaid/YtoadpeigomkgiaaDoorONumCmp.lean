/- number.Compare, the document's Compare and Same: what they compute. -/
import Derived.Test.YtoadpeigomkgiaaDoorNumFlo
import Derived.Test.YtoadpeigomkgiaaDoorSl
namespace Go.Proofs.YtoadpeigomkgiaaDoor
open Go.RowKit

theorem ord_neqs (x : Nat) : (FloatKind.f64.format.order x x != some .eq) = isNan x := by
  have h := ord_self x
  show (!(Ieee.double.order x x == some .eq)) = _
  rw [h]; simp

theorem isNan_any (x : Nat) (w : World) :
    Calls Tryd.prog 69 #[.float .f64 x] w fun e w' => e = .returned (.bool (isNan x)) ∧ w = w' := by
  have h := ord_neqs x
  go_enter Tryd.func69, Tryd.ntmps69
  go_wp2_with fail
  go_ret
  exact ⟨rfl, rfl⟩

/-- how two values stand that are no NaN -/
def cmpI (x y : Nat) : Int := if key x < key y then -1 else if key y < key x then 1 else 0

theorem stdCmp_any (x y : Nat) (hx : isNan x = false) (hy : isNan y = false) (w : World) :
    Calls Tryd.prog 52 #[.float .f64 x, .float .f64 y] w fun e w' => e = .returned (.int .i64 (cmpI x y)) ∧ w = w' := by
  have h1 : (FloatKind.f64.format.order x y == some .lt) = decide (key x < key y) := ord_lt hx hy
  have h2 : (FloatKind.f64.format.order x y == some .gt) = decide (key y < key x) := ord_gt hx hy
  unfold cmpI
  by_cases c1 : key x < key y
  · rw [if_pos c1]
    rw [decide_eq_true c1] at h1
    go_enter Tryd.func52, Tryd.ntmps52
    go_wp2_with (first | (go_at_call 69; refine (isNan_any _ _).mono ?_; rintro e w' ⟨rfl, rfl⟩; simp only [hx, hy]))
    go_ret
    exact ⟨rfl, rfl⟩
  · rw [if_neg c1]
    rw [decide_eq_false c1] at h1
    by_cases c2 : key y < key x
    · rw [if_pos c2]
      rw [decide_eq_true c2] at h2
      go_enter Tryd.func52, Tryd.ntmps52
      go_wp2_with (first | (go_at_call 69; refine (isNan_any _ _).mono ?_; rintro e w' ⟨rfl, rfl⟩; simp only [hx, hy]))
      go_ret
      exact ⟨rfl, rfl⟩
    · rw [if_neg c2]
      rw [decide_eq_false c2] at h2
      go_enter Tryd.func52, Tryd.ntmps52
      go_wp2_with (first | (go_at_call 69; refine (isNan_any _ _).mono ?_; rintro e w' ⟨rfl, rfl⟩; simp only [hx, hy]))
      go_ret
      exact ⟨rfl, rfl⟩

def cmpV (x y : Nat) : Int := if isNan x || isNan y then 0 else cmpI x y
def cmpOk (x y : Nat) : Bool := !(isNan x || isNan y)

theorem refCmp_any (x y : Nat) (w : World) :
    Calls Tryd.prog 27 #[.float .f64 x, .float .f64 y] w fun e w' => e = .returned (.tuple #[.int .i64 (cmpV x y), .bool (cmpOk x y)]) ∧ w = w' := by
  unfold cmpV cmpOk
  by_cases hn : isNan x = true ∨ isNan y = true
  · have h0 := ord_nan hn
    have h1 : (FloatKind.f64.format.order x y == some .lt) = false := by show (Ieee.double.order x y == some .lt) = false; rw [h0]; rfl
    have h2 : (FloatKind.f64.format.order x y == some .gt) = false := by show (Ieee.double.order x y == some .gt) = false; rw [h0]; rfl
    have h3 : (FloatKind.f64.format.order x y == some .eq) = false := by show (Ieee.double.order x y == some .eq) = false; rw [h0]; rfl
    have hb : (isNan x || isNan y) = true := by rcases hn with h | h <;> simp [h]
    rw [hb]
    clear h0 hn hb
    go_enter Tryd.func27, Tryd.ntmps27
    go_wp2_with fail
    go_ret2
    exact ⟨rfl, rfl⟩
  · have hx : isNan x = false := by cases h : isNan x <;> simp_all
    have hy : isNan y = false := by cases h : isNan y <;> simp_all
    have h1 : (FloatKind.f64.format.order x y == some .lt) = decide (key x < key y) := ord_lt hx hy
    have h2 : (FloatKind.f64.format.order x y == some .gt) = decide (key y < key x) := ord_gt hx hy
    have h3 : (FloatKind.f64.format.order x y == some .eq) = decide (key x = key y) := ord_eq hx hy
    have hb : (isNan x || isNan y) = false := by simp [hx, hy]
    rw [hb]
    unfold cmpI
    clear hn hb
    rcases Int.lt_trichotomy (key x) (key y) with c | c | c
    · rw [if_pos c]
      rw [decide_eq_true c] at h1
      clear h2 h3
      go_enter Tryd.func27, Tryd.ntmps27
      go_wp2_with fail
      go_ret2
      exact ⟨rfl, rfl⟩
    · rw [if_neg (show ¬ key x < key y by omega), if_neg (show ¬ key y < key x by omega)]
      rw [decide_eq_false (show ¬ key x < key y by omega)] at h1
      rw [decide_eq_false (show ¬ key y < key x by omega)] at h2
      rw [decide_eq_true c] at h3
      clear c
      go_enter Tryd.func27, Tryd.ntmps27
      go_wp2_with fail
      go_ret2
      exact ⟨rfl, rfl⟩
    · rw [if_neg (show ¬ key x < key y by omega), if_pos c]
      rw [decide_eq_false (show ¬ key x < key y by omega)] at h1
      rw [decide_eq_true c] at h2
      clear h3
      go_enter Tryd.func27, Tryd.ntmps27
      go_wp2_with fail
      go_ret2
      exact ⟨rfl, rfl⟩

/-- two values that agree: the same bits, or both a NaN -/
def Agree (x y : Nat) : Prop := (isNan x = true ∧ isNan y = true) ∨ (isNan x = false ∧ x = y)

theorem key_zero {x : Nat} (h : key x = key 0) (hn : isNan x = false) : ∃ r s, FloatKind.f64.format.div 4607182418800017408 x = some r ∧ Ieee.double.read r = .infinity s := by
  have h0 : key 0 = 0 := by decide
  rw [h0] at h
  unfold key at h
  unfold isNan at hn
  show ∃ r s, Ieee.double.div 4607182418800017408 x = some r ∧ _
  unfold Ieee.Format.div
  have h1 : Ieee.double.read 4607182418800017408 = .number false 4503599627370496 (-52) := by decide
  rw [h1]
  have hp := huge_pos
  cases hx : Ieee.double.read x with
  | nan s f => rw [hx] at hn; cases hn
  | infinity s =>
    rw [hx] at h
    exfalso
    simp only at h
    split at h <;> omega
  | number s m e =>
    rw [hx] at h
    have hm : m = 0 := by
      simp only [Ieee.signed, Nat.shiftLeft_eq] at h
      generalize hu : (e - Ieee.double.leastPlace).toNat = u at h
      have hp2 := Nat.two_pow_pos u
      have : m * 2 ^ u = 0 := by
        generalize m * 2 ^ u = X at h
        split at h <;> omega
      rcases Nat.mul_eq_zero.1 this with h' | h'
      · exact h'
      · omega
    subst hm
    cases s
    · exact ⟨Ieee.double.write (.infinity false), false, rfl, by decide⟩
    · exact ⟨Ieee.double.write (.infinity true), true, rfl, by decide⟩

theorem inf_eq {r : Nat} {s : Bool} (h : Ieee.double.read r = .infinity s) : (FloatKind.f64.format.order r r == some .eq) = true := by
  show (Ieee.double.order r r == some .eq) = true
  rw [ord_self]; unfold isNan; rw [h]; rfl

end Go.Proofs.YtoadpeigomkgiaaDoor

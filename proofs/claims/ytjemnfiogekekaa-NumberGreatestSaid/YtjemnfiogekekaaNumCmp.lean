/- number.Compare, the document's Compare and Same: what they compute. -/
import Derived.Test.YtjemnfiogekekaaNumFlo
import Derived.Test.YtjemnfiogekekaaSl
namespace Go.Proofs.Ytjemnfiogekekaa
open Go.RowKit

theorem ord_neqs (x : Nat) : (FloatKind.f64.format.order x x != some .eq) = isNan x := by
  have h := ord_self x
  show (!(Ieee.double.order x x == some .eq)) = _
  rw [h]; simp

theorem isNaN_any (x : Nat) (w : World) :
    Calls Try.prog 23 #[.float .f64 x] w fun e w' => e = .returned (.bool (isNan x)) ∧ w = w' := by
  have h := ord_neqs x
  go_enter Try.func23, Try.ntmps23
  go_wp2_with fail
  go_ret
  exact ⟨rfl, rfl⟩

theorem isNan_any (x : Nat) (w : World) :
    Calls Try.prog 29 #[.float .f64 x] w fun e w' => e = .returned (.bool (isNan x)) ∧ w = w' := by
  have h := ord_neqs x
  go_enter Try.func29, Try.ntmps29
  go_wp2_with fail
  go_ret
  exact ⟨rfl, rfl⟩

/-- how two values stand that are no NaN -/
def cmpI (x y : Nat) : Int := if key x < key y then -1 else if key y < key x then 1 else 0

theorem stdCmp_any (x y : Nat) (hx : isNan x = false) (hy : isNan y = false) (w : World) :
    Calls Try.prog 24 #[.float .f64 x, .float .f64 y] w fun e w' => e = .returned (.int .i64 (cmpI x y)) ∧ w = w' := by
  have h1 : (FloatKind.f64.format.order x y == some .lt) = decide (key x < key y) := ord_lt hx hy
  have h2 : (FloatKind.f64.format.order x y == some .gt) = decide (key y < key x) := ord_gt hx hy
  unfold cmpI
  by_cases c1 : key x < key y
  · rw [if_pos c1]
    rw [decide_eq_true c1] at h1
    go_enter Try.func24, Try.ntmps24
    go_wp2_with (first | (go_at_call 29; refine (isNan_any _ _).mono ?_; rintro e w' ⟨rfl, rfl⟩; simp only [hx, hy]))
    go_ret
    exact ⟨rfl, rfl⟩
  · rw [if_neg c1]
    rw [decide_eq_false c1] at h1
    by_cases c2 : key y < key x
    · rw [if_pos c2]
      rw [decide_eq_true c2] at h2
      go_enter Try.func24, Try.ntmps24
      go_wp2_with (first | (go_at_call 29; refine (isNan_any _ _).mono ?_; rintro e w' ⟨rfl, rfl⟩; simp only [hx, hy]))
      go_ret
      exact ⟨rfl, rfl⟩
    · rw [if_neg c2]
      rw [decide_eq_false c2] at h2
      go_enter Try.func24, Try.ntmps24
      go_wp2_with (first | (go_at_call 29; refine (isNan_any _ _).mono ?_; rintro e w' ⟨rfl, rfl⟩; simp only [hx, hy]))
      go_ret
      exact ⟨rfl, rfl⟩

def cmpV (x y : Nat) : Int := if isNan x || isNan y then 0 else cmpI x y
def cmpOk (x y : Nat) : Bool := !(isNan x || isNan y)

theorem cmp_any (x y : Nat) (w : World) :
    Calls Try.prog 12 #[.float .f64 x, .float .f64 y] w fun e w' => e = .returned (.tuple #[.int .i64 (cmpV x y), .bool (cmpOk x y)]) ∧ w = w' := by
  unfold cmpV cmpOk
  cases hx : isNan x
  · cases hy : isNan y
    · go_enter Try.func12, Try.ntmps12
      go_wp2_with (first | (go_at_call 23; refine (isNaN_any _ _).mono ?_; rintro e w' ⟨rfl, rfl⟩; simp only [hx, hy]) | (go_at_call 24; refine (stdCmp_any _ _ hx hy _).mono ?_; rintro e w' ⟨rfl, rfl⟩))
      go_ret2
      exact ⟨rfl, rfl⟩
    · go_enter Try.func12, Try.ntmps12
      go_wp2_with (first | (go_at_call 23; refine (isNaN_any _ _).mono ?_; rintro e w' ⟨rfl, rfl⟩; simp only [hx, hy]))
      go_ret2
      exact ⟨rfl, rfl⟩
  · go_enter Try.func12, Try.ntmps12
    go_wp2_with (first | (go_at_call 23; refine (isNaN_any _ _).mono ?_; rintro e w' ⟨rfl, rfl⟩; simp only [hx]))
    go_ret2
    exact ⟨rfl, rfl⟩

theorem refCmp_any (x y : Nat) (w : World) :
    Calls Try.prog 13 #[.float .f64 x, .float .f64 y] w fun e w' => e = .returned (.tuple #[.int .i64 (cmpV x y), .bool (cmpOk x y)]) ∧ w = w' := by
  unfold cmpV cmpOk
  by_cases hn : isNan x = true ∨ isNan y = true
  · have h0 := ord_nan hn
    have h1 : (FloatKind.f64.format.order x y == some .lt) = false := by show (Ieee.double.order x y == some .lt) = false; rw [h0]; rfl
    have h2 : (FloatKind.f64.format.order x y == some .gt) = false := by show (Ieee.double.order x y == some .gt) = false; rw [h0]; rfl
    have h3 : (FloatKind.f64.format.order x y == some .eq) = false := by show (Ieee.double.order x y == some .eq) = false; rw [h0]; rfl
    have hb : (isNan x || isNan y) = true := by rcases hn with h | h <;> simp [h]
    rw [hb]
    clear h0 hn hb
    go_enter Try.func13, Try.ntmps13
    go_wp2_with fail
    go_ret2
    exact ⟨rfl, rfl⟩
  · have hx : isNan x = false := by cases h : isNan x <;> simp_all
    have hy : isNan y = false := by cases h : isNan y <;> simp_all
    have h1 : (FloatKind.f64.format.order x y == some .lt) = decide (key x < key y) := ord_lt hx hy
    have h2 : (FloatKind.f64.format.order x y == some .gt) = decide (key y < key x) := ord_gt hx hy
    have h3 : (FloatKind.f64.format.order x y == some .eq) = decide (key x = key y) := ord_eq hx hy
    have hb : (isNan x || isNan y) = false := by simp [hx, hy]
    rw [hb]
    unfold cmpI
    clear hn hb
    rcases Int.lt_trichotomy (key x) (key y) with c | c | c
    · rw [if_pos c]
      rw [decide_eq_true c] at h1
      clear h2 h3
      go_enter Try.func13, Try.ntmps13
      go_wp2_with fail
      go_ret2
      exact ⟨rfl, rfl⟩
    · rw [if_neg (show ¬ key x < key y by omega), if_neg (show ¬ key y < key x by omega)]
      rw [decide_eq_false (show ¬ key x < key y by omega)] at h1
      rw [decide_eq_false (show ¬ key y < key x by omega)] at h2
      rw [decide_eq_true c] at h3
      clear c
      go_enter Try.func13, Try.ntmps13
      go_wp2_with fail
      go_ret2
      exact ⟨rfl, rfl⟩
    · rw [if_neg (show ¬ key x < key y by omega), if_pos c]
      rw [decide_eq_false (show ¬ key x < key y by omega)] at h1
      rw [decide_eq_true c] at h2
      clear h3
      go_enter Try.func13, Try.ntmps13
      go_wp2_with fail
      go_ret2
      exact ⟨rfl, rfl⟩

/-- two values that agree: the same bits, or both a NaN -/
def Agree (x y : Nat) : Prop := (isNan x = true ∧ isNan y = true) ∨ (isNan x = false ∧ x = y)

theorem key_zero {x : Nat} (h : key x = key 0) (hn : isNan x = false) : ∃ r s, FloatKind.f64.format.div 4607182418800017408 x = some r ∧ Ieee.double.read r = .infinity s := by
  have h0 : key 0 = 0 := by decide
  rw [h0] at h
  unfold key at h
  unfold isNan at hn
  show ∃ r s, Ieee.double.div 4607182418800017408 x = some r ∧ _
  unfold Ieee.Format.div
  have h1 : Ieee.double.read 4607182418800017408 = .number false 4503599627370496 (-52) := by decide
  rw [h1]
  have hp := huge_pos
  cases hx : Ieee.double.read x with
  | nan s f => rw [hx] at hn; cases hn
  | infinity s =>
    rw [hx] at h
    exfalso
    simp only at h
    split at h <;> omega
  | number s m e =>
    rw [hx] at h
    have hm : m = 0 := by
      simp only [Ieee.signed, Nat.shiftLeft_eq] at h
      generalize hu : (e - Ieee.double.leastPlace).toNat = u at h
      have hp2 := Nat.two_pow_pos u
      have : m * 2 ^ u = 0 := by
        generalize m * 2 ^ u = X at h
        split at h <;> omega
      rcases Nat.mul_eq_zero.1 this with h' | h'
      · exact h'
      · omega
    subst hm
    cases s
    · exact ⟨Ieee.double.write (.infinity false), false, rfl, by decide⟩
    · exact ⟨Ieee.double.write (.infinity true), true, rfl, by decide⟩

theorem inf_eq {r : Nat} {s : Bool} (h : Ieee.double.read r = .infinity s) : (FloatKind.f64.format.order r r == some .eq) = true := by
  show (Ieee.double.order r r == some .eq) = true
  rw [ord_self]; unfold isNan; rw [h]; rfl

theorem same_any (x y : Nat) (h : Agree x y) (w : World) :
    Calls Try.prog 11 #[.float .f64 x, .float .f64 y] w fun e w' => e = .returned (.bool true) ∧ w = w' := by
  rcases h with ⟨hx, hy⟩ | ⟨hx, rfl⟩
  · have h1 := ord_neqs x
    have h2 := ord_neqs y
    rw [hx] at h1
    rw [hy] at h2
    go_enter Try.func11, Try.ntmps11
    go_wp2_with fail
    go_ret
    exact ⟨rfl, rfl⟩
  · have h1 := ord_neqs x
    rw [hx] at h1
    have h2 : (FloatKind.f64.format.order x x == some .eq) = true := by
      show (Ieee.double.order x x == some .eq) = true
      rw [ord_self, hx]; rfl
    have h3 : (FloatKind.f64.format.order x 0 != some .eq) = !decide (key x = key 0) := by
      show (!(Ieee.double.order x 0 == some .eq)) = _
      rw [ord_eq hx (by decide)]
    by_cases hz : key x = key 0
    · rw [decide_eq_true hz] at h3
      obtain ⟨r, s, hr, hs⟩ := key_zero hz hx
      have h4 := inf_eq hs
      have h5 : ∀ (P : Program) (W : World), (binOp .quo 24 (.float .f64 4607182418800017408) (.float .f64 x)).run P W = .ok (.float .f64 r) W := fun P W => run_float_arith W .quo 24 .f64 _ _ _ hr
      clear hs hr hz
      go_enter Try.func11, Try.ntmps11
      go_wp2_with fail
      go_ret
      exact ⟨rfl, rfl⟩
    · rw [decide_eq_false hz] at h3
      clear hz
      go_enter Try.func11, Try.ntmps11
      go_wp2_with fail
      go_ret
      exact ⟨rfl, rfl⟩
end Go.Proofs.Ytjemnfiogekekaa

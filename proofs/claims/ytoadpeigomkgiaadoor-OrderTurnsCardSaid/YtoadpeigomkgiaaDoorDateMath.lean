/- Dates: plain numbers. -/
import Derived.Test.YtoadpeigomkgiaaDoorRows
namespace Go.Proofs.YtoadpeigomkgiaaDoor

/-- is a year long? -/
def lpB (y : Int) : Bool := decide (y % 4 = 0 ∧ (y % 100 ≠ 0 ∨ y % 400 = 0))
def lp (y : Int) : Int := if lpB y then 1 else 0
/-- days of a month -/
def dim (y m : Int) : Int := if m = 2 then 28 + lp y else if m = 4 ∨ m = 6 ∨ m = 9 ∨ m = 11 then 30 else 31
/-- days ahead of a year -/
def dby (y : Int) : Int := 365 * y + (y + 3) / 4 - (y + 99) / 100 + (y + 399) / 400
/-- days ahead of a month -/
def cum (y : Int) : Nat → Int
  | 0 => 0
  | 1 => 0
  | m + 2 => cum y (m + 1) + dim y ((m : Int) + 1)

theorem lp_01 (y : Int) : 0 ≤ lp y ∧ lp y ≤ 1 := by unfold lp; split <;> omega
theorem dim_bd (y m : Int) : 28 ≤ dim y m ∧ dim y m ≤ 31 := by
  have := lp_01 y
  unfold dim; repeat' split
  all_goals omega
theorem lp_one (y : Int) (h : y % 4 = 0 ∧ (y % 100 ≠ 0 ∨ y % 400 = 0)) : lp y = 1 := by
  have : lpB y = true := decide_eq_true h
  simp [lp, this]
theorem lp_zero (y : Int) (h : ¬ (y % 4 = 0 ∧ (y % 100 ≠ 0 ∨ y % 400 = 0))) : lp y = 0 := by
  have : lpB y = false := decide_eq_false h
  simp [lp, this]
theorem dby_succ (y : Int) : dby (y + 1) = dby y + 365 + lp y := by
  by_cases h4 : y % 4 = 0 ∧ (y % 100 ≠ 0 ∨ y % 400 = 0)
  · rw [lp_one y h4]; unfold dby; omega
  · rw [lp_zero y h4]; unfold dby; omega
theorem dby_four (q : Int) : dby (400 * q) = 146097 * q := by unfold dby; omega
theorem dby_zero : dby 0 = 0 := by decide
theorem dby_bd (y : Int) (h : 0 ≤ y) (h2 : y ≤ 10001) : 0 ≤ dby y ∧ dby y ≤ 3652791 := by unfold dby; omega
theorem dby_max : dby 10000 = 3652425 := by decide
theorem dby_pos (y : Int) : dby y = y * 365 + ((y - 1) / 4 - (y - 1) / 100 + (y - 1) / 400 + 1) := by unfold dby; omega
theorem cum_succ (y : Int) (m : Nat) (h : 1 ≤ m) : cum y (m + 1) = cum y m + dim y m := by
  obtain ⟨k, rfl⟩ : ∃ k, m = k + 1 := ⟨m - 1, by omega⟩
  rw [cum]; simp
theorem cum_bd (y : Int) (m : Nat) : 0 ≤ cum y m ∧ cum y m ≤ 31 * m := by
  induction m with
  | zero => simp [cum]
  | succ k ih =>
    by_cases hk : 1 ≤ k
    · rw [cum_succ y k hk]; have := dim_bd y k; omega
    · obtain rfl : k = 0 := by omega
      simp [cum]
theorem cum_13 (y : Int) : cum y 13 = 365 + lp y := by
  simp [cum, dim]; omega

/-- a digit? -/
def isD (c : UInt8) : Bool := decide (48 ≤ c.toNat ∧ c.toNat ≤ 57)
def dg (c : UInt8) : Nat := c.toNat - 48
theorem isD_iff (c : UInt8) : isD c = true ↔ 48 ≤ c.toNat ∧ c.toNat ≤ 57 := by simp [isD]
theorem isD_not (c : UInt8) : isD c = false ↔ c.toNat < 48 ∨ 57 < c.toNat := by rw [← Bool.not_eq_true, isD_iff]; omega
def two2 (a b : UInt8) : Nat := 10 * dg a + dg b

/-- A text of a clock's time. -/
def clockOk : List UInt8 → Bool
  | [a, b, p, c, d, q, e, f] => isD a && isD b && (p == 58) && isD c && isD d && (q == 58) && isD e && isD f && decide (two2 a b ≤ 23 ∧ two2 c d ≤ 59 ∧ two2 e f ≤ 59)
  | _ => false
def clockN : List UInt8 → Int
  | [a, b, _, c, d, _, e, f] => 3600 * two2 a b + 60 * two2 c d + two2 e f
  | _ => 0
def clockV (l : List UInt8) : Int := if clockOk l then clockN l else 0
/-- A text of a date. -/
def dateOk : List UInt8 → Bool
  | y1 :: y2 :: y3 :: y4 :: p :: m1 :: m2 :: q :: d1 :: d2 :: r :: t => isD y1 && isD y2 && isD y3 && isD y4 && (p == 45) && isD m1 && isD m2 && (q == 45) && isD d1 && isD d2 && (r == 95) && clockOk t &&
      decide (1 ≤ two2 m1 m2 ∧ two2 m1 m2 ≤ 12 ∧ 1 ≤ two2 d1 d2 ∧ (two2 d1 d2 : Int) ≤ dim (100 * two2 y1 y2 + two2 y3 y4 : Nat) (two2 m1 m2 : Nat))
  | _ => false
def dateN : List UInt8 → Int
  | y1 :: y2 :: y3 :: y4 :: _ :: m1 :: m2 :: _ :: d1 :: d2 :: _ :: t => (dby (100 * two2 y1 y2 + two2 y3 y4 : Nat) + ((two2 d1 d2 : Nat) - 1 : Int) + cum (100 * two2 y1 y2 + two2 y3 y4 : Nat) (two2 m1 m2)) * 86400 + clockN t
  | _ => 0
def dateV (l : List UInt8) : Int := if dateOk l then dateN l else 0

/-- the value of digits -/
def digN (l : List UInt8) : Nat := l.foldl (fun n c => 10 * n + dg c) 0
theorem digN_snoc (l : List UInt8) (c : UInt8) : digN (l ++ [c]) = 10 * digN l + dg c := by simp [digN]

/-- does a text fit a form? noughts stand for digits -/
def fitsC (c f : UInt8) : Bool := if f = 48 then isD c else c == f
def fitsL : List UInt8 → List UInt8 → Bool
  | [], [] => true
  | c :: l, f :: r => fitsC c f && fitsL l r
  | _, _ => false
theorem fitsL_len (l r : List UInt8) (h : l.length ≠ r.length) : fitsL l r = false := by
  induction l generalizing r with
  | nil => cases r <;> simp_all [fitsL]
  | cons c l ih => cases r with
    | nil => rfl
    | cons f r => simp [fitsL, ih r (by simpa using h)]
theorem fitsL_drop (l r : List UInt8) (k : Nat) (h1 : k < l.length) (h2 : k < r.length) : fitsL (l.drop k) (r.drop k) = (fitsC (l.getD k 0) (r.getD k 0) && fitsL (l.drop (k + 1)) (r.drop (k + 1))) := by
  rw [List.drop_eq_getElem_cons h1, List.drop_eq_getElem_cons h2]
  simp [fitsL, List.getD_eq_getElem?_getD, h1, h2]
end Go.Proofs.YtoadpeigomkgiaaDoor

/- Floats: how they stand, the float of a small number, quotients. -/
import Derived.Laws.FloatArith
namespace Go.Proofs.YtoadpeigomkgiaaDoor
open Ieee

def isNan (b : Nat) : Bool := (Ieee.double.read b).isNaN
def hugeE : Nat := 2200
def huge : Int := 2 ^ hugeE
def key (b : Nat) : Int := match Ieee.double.read b with
  | .number s m e => signed s m (e - Ieee.double.leastPlace).toNat
  | .infinity s => if s then -huge else huge
  | .nan .. => 0

theorem least_eq : Ieee.double.leastPlace = -1074 := by decide
theorem binade_eq : Ieee.double.binade = 2 ^ 52 := rfl
theorem infRung_eq : Ieee.double.infRung = 2047 * 2 ^ 52 := by decide
theorem weight_eq : Ieee.double.signWeight = 2 ^ 63 := rfl

theorem read_num {b : Nat} {s : Bool} {m : Nat} {e : Int} (h : Ieee.double.read b = .number s m e) : m < 2 ^ 53 ∧ -1074 ≤ e ∧ e ≤ 971 := by
  unfold Format.read at h
  rw [least_eq, binade_eq, infRung_eq, weight_eq] at h
  dsimp only at h
  obtain ⟨r, hr⟩ : ∃ r, r = b % 2 ^ 63 := ⟨_, rfl⟩
  rw [← hr] at h
  clear hr
  split at h
  · cases h; omega
  · split at h
    · cases h
      omega
    · split at h <;> cases h

theorem signed_mul (s : Bool) (m u v : Nat) : signed s m (u + v) = signed s m u * ((2 ^ v : Nat) : Int) := by
  unfold signed
  simp only [Nat.shiftLeft_eq, Nat.pow_add]
  cases s <;> simp [Int.natCast_mul, Int.mul_assoc, Int.neg_mul]

theorem cmp_mul (a b : Int) (k : Nat) (hk : 0 < k) : compare (a * (k : Int)) (b * (k : Int)) = compare a b := by
  have hk' : (0 : Int) < (k : Int) := by omega
  simp only [compare, compareOfLessAndEq]
  have e1 : (a * (k : Int) < b * (k : Int)) = (a < b) := propext ⟨fun h => Int.lt_of_mul_lt_mul_right h (by omega), fun h => Int.mul_lt_mul_of_pos_right h hk'⟩
  have e2 : (a * (k : Int) = b * (k : Int)) = (a = b) := propext ⟨fun h => Int.eq_of_mul_eq_mul_right (by omega) h, fun h => by rw [h]⟩
  simp only [e1, e2]

theorem key_lt {b : Nat} {s : Bool} {m : Nat} {e : Int} (h : Ieee.double.read b = .number s m e) : -huge < signed s m (e - Ieee.double.leastPlace).toNat ∧ signed s m (e - Ieee.double.leastPlace).toNat < huge := by
  obtain ⟨h1, h2, h3⟩ := read_num h
  rw [least_eq]
  obtain ⟨u, hu⟩ : ∃ u, u = (e - -1074).toNat := ⟨_, rfl⟩
  have hu2 : u ≤ 2045 := by omega
  rw [← hu]
  have h4 : m <<< u < 2 ^ hugeE := by
    rw [Nat.shiftLeft_eq]
    calc m * 2 ^ u < 2 ^ 53 * 2 ^ u := Nat.mul_lt_mul_of_pos_right h1 (Nat.two_pow_pos _)
      _ = 2 ^ (53 + u) := (Nat.pow_add ..).symm
      _ ≤ 2 ^ hugeE := Nat.pow_le_pow_right (by omega) (by unfold hugeE; omega)
  have h5 : ((m <<< u : Nat) : Int) < huge := by
    unfold huge
    have : ((2 ^ hugeE : Nat) : Int) = 2 ^ hugeE := by simp
    rw [← this]; exact_mod_cast h4
  unfold signed
  obtain ⟨X, hX⟩ : ∃ X, X = m <<< u := ⟨_, rfl⟩
  rw [← hX] at h5 ⊢
  have h6 : (0 : Int) ≤ (X : Int) := by omega
  clear h4 hX
  split
  · constructor <;> omega
  · constructor <;> omega

theorem huge_pos : 0 < huge := by unfold huge; exact Int.pow_pos (by omega)

theorem cmp_lt {a b : Int} (h : a < b) : compare a b = .lt := by simp [compare, compareOfLessAndEq, h]
theorem cmp_gt {a b : Int} (h : b < a) : compare a b = .gt := by simp [compare, compareOfLessAndEq, show ¬ a < b by omega, show ¬ a = b by omega]
theorem cmp_eq (a : Int) : compare a a = .eq := by simp [compare, compareOfLessAndEq]

theorem order_key (x y : Nat) : Ieee.double.order x y = if isNan x || isNan y then none else some (compare (key x) (key y)) := by
  unfold Format.order isNan key
  have hp := huge_pos
  cases hx : Ieee.double.read x with
  | nan s f => cases Ieee.double.read y <;> rfl
  | infinity s =>
    cases hy : Ieee.double.read y with
    | nan t g => rfl
    | infinity t =>
      cases s <;> cases t <;> simp [Datum.order, Datum.isNaN, cmp_lt (show -huge < huge by omega), cmp_gt (show -huge < huge by omega)] <;> rfl
    | number t n j =>
      have h := key_lt hy
      cases s
      · simp [Datum.order, Datum.isNaN, cmp_gt h.2]
      · simp [Datum.order, Datum.isNaN, cmp_lt h.1]
  | number s m i =>
    cases hy : Ieee.double.read y with
    | nan t g => rfl
    | infinity t =>
      have h := key_lt hx
      cases t
      · simp [Datum.order, Datum.isNaN, cmp_lt h.2]
      · simp [Datum.order, Datum.isNaN, cmp_gt h.1]
    | number t n j =>
      obtain ⟨_, hx2, _⟩ := read_num hx
      obtain ⟨_, hy2, _⟩ := read_num hy
      simp only [Datum.order, Datum.isNaN, Bool.or_self, Bool.false_eq_true, if_false]
      rw [least_eq]
      obtain ⟨b, hb⟩ : ∃ b, b = min i j := ⟨_, rfl⟩
      rw [← hb]
      have e1 : (i - -1074).toNat = (i - b).toNat + (b + 1074).toNat := by omega
      have e2 : (j - -1074).toNat = (j - b).toNat + (b + 1074).toNat := by omega
      rw [e1, e2, signed_mul, signed_mul, cmp_mul _ _ _ (Nat.two_pow_pos _)]

theorem ord_lt {x y : Nat} (hx : isNan x = false) (hy : isNan y = false) : (Ieee.double.order x y == some .lt) = decide (key x < key y) := by
  rw [order_key, hx, hy]
  rcases Int.lt_trichotomy (key x) (key y) with h | h | h
  · simp [cmp_lt h, h]
  · rw [h]; simp
  · simp [cmp_gt h]; omega
theorem ord_gt {x y : Nat} (hx : isNan x = false) (hy : isNan y = false) : (Ieee.double.order x y == some .gt) = decide (key y < key x) := by
  rw [order_key, hx, hy]
  rcases Int.lt_trichotomy (key x) (key y) with h | h | h
  · simp [cmp_lt h]; omega
  · rw [h]; simp
  · simp [cmp_gt h, h]
theorem ord_eq {x y : Nat} (hx : isNan x = false) (hy : isNan y = false) : (Ieee.double.order x y == some .eq) = decide (key x = key y) := by
  rw [order_key, hx, hy]
  rcases Int.lt_trichotomy (key x) (key y) with h | h | h
  · simp [cmp_lt h]; omega
  · rw [h]; simp
  · simp [cmp_gt h]; omega
theorem ord_nan {x y : Nat} (h : isNan x = true ∨ isNan y = true) : Ieee.double.order x y = none := by
  rw [order_key]; rcases h with h | h <;> simp [h]
theorem ord_self (x : Nat) : (Ieee.double.order x x == some .eq) = !isNan x := by
  cases h : isNan x
  · rw [ord_eq h h]; simp
  · rw [ord_nan (.inl h)]; rfl

/-! the float of a small number -/
def fl (n : Nat) : Nat := floatOfInt .f64 (n : Int)

theorem fl_write (n : Nat) : fl n = Ieee.double.nearest false n 0 := by
  unfold fl floatOfInt FloatKind.nearest FloatKind.encode
  show Ieee.double.write (.number (decide ((n : Int) < 0)) (n : Int).natAbs 0) = _
  rw [show decide ((n : Int) < 0) = false by simp]
  rfl

theorem log_bd (n : Nat) (h0 : n ≠ 0) : 2 ^ n.log2 ≤ n ∧ n < 2 ^ (n.log2 + 1) := ⟨Nat.log2_self_le h0, Nat.lt_log2_self⟩
theorem log_le (n : Nat) (h0 : n ≠ 0) (h : n < 2 ^ 53) : n.log2 ≤ 52 := by
  have := (Nat.log2_lt h0).2 h; omega
theorem log_of (n k : Nat) (h1 : 2 ^ k ≤ n) (h2 : n < 2 ^ (k + 1)) : n.log2 = k := by
  have h0 : n ≠ 0 := by have := Nat.two_pow_pos k; omega
  have a := (Nat.le_log2 h0).2 h1
  have b := (Nat.log2_lt h0).2 h2
  omega

theorem norm_bd (n : Nat) (h0 : n ≠ 0) (h : n < 2 ^ 53) : 2 ^ 52 ≤ n * 2 ^ (52 - n.log2) ∧ n * 2 ^ (52 - n.log2) < 2 ^ 53 := by
  obtain ⟨h1, h2⟩ := log_bd n h0
  have h3 := log_le n h0 h
  constructor
  · calc 2 ^ 52 = 2 ^ (n.log2 + (52 - n.log2)) := by congr 1; omega
      _ = 2 ^ n.log2 * 2 ^ (52 - n.log2) := Nat.pow_add ..
      _ ≤ _ := Nat.mul_le_mul_right _ h1
  · calc n * 2 ^ (52 - n.log2) < 2 ^ (n.log2 + 1) * 2 ^ (52 - n.log2) := Nat.mul_lt_mul_of_pos_right h2 (Nat.two_pow_pos _)
      _ = 2 ^ (n.log2 + 1 + (52 - n.log2)) := (Nat.pow_add ..).symm
      _ = 2 ^ 53 := by congr 1; omega

theorem cut_zero (way : Bool) (n : Nat) : Toward.even.cut way n 0 = n := by
  simp [Toward.cut, Nat.mod_one]

theorem fl_exact (n : Nat) (h0 : n ≠ 0) (h : n < 2 ^ 53) : fl n = (n.log2 + 1022) * 2 ^ 52 + n * 2 ^ (52 - n.log2) := by
  have h3 := log_le n h0 h
  obtain ⟨h4, h5⟩ := norm_bd n h0 h
  rw [fl_write]
  unfold Format.nearest
  rw [if_neg h0]
  dsimp only
  rw [least_eq]
  have hf : ((Ieee.double.fractionBits : Nat) : Int) = 52 := rfl
  rw [hf]
  have e1 : max (0 + (n.log2 : Int) - 52) (-1074) = (n.log2 : Int) - 52 := by omega
  rw [e1]
  have e2 : ((0 : Int) - ((n.log2 : Int) - 52)).toNat = 52 - n.log2 := by omega
  have e3 : ((n.log2 : Int) - 52 - 0).toNat = 0 := by omega
  have e4 : ((n.log2 : Int) - 52 - -1074).toNat = n.log2 + 1022 := by omega
  rw [e2, e3, e4, cut_zero, Nat.shiftLeft_eq, infRung_eq, binade_eq]
  unfold Format.word
  simp only [Bool.false_eq_true, if_false]
  rw [Nat.min_eq_left]
  obtain ⟨M, hM⟩ : ∃ M, M = n * 2 ^ (52 - n.log2) := ⟨_, rfl⟩
  rw [← hM] at h5 ⊢
  clear hM h4 e1 e2 e3 e4
  generalize n.log2 = L at h3 ⊢
  clear h
  simp only [Nat.reducePow, Nat.reduceMul] at h5 ⊢
  omega

theorem fl_zero : fl 0 = 0 := by rw [fl_write]; rfl

theorem read_fl (n : Nat) (h0 : n ≠ 0) (h : n < 2 ^ 53) : Ieee.double.read (fl n) = .number false (n * 2 ^ (52 - n.log2)) ((n.log2 : Int) - 52) := by
  have h3 := log_le n h0 h
  obtain ⟨h4, h5⟩ := norm_bd n h0 h
  rw [fl_exact n h0 h]
  obtain ⟨M, hM⟩ : ∃ M, M = n * 2 ^ (52 - n.log2) := ⟨_, rfl⟩
  obtain ⟨L, hL⟩ : ∃ L, L = n.log2 := ⟨_, rfl⟩
  rw [← hM] at h4 h5 ⊢
  rw [← hL] at h3 ⊢
  clear hM hL h h0
  unfold Format.read
  rw [least_eq, binade_eq, infRung_eq, weight_eq]
  dsimp only
  simp only [Nat.reducePow, Nat.reduceMul] at h4 h5 ⊢
  have hb : (L + 1022) * 4503599627370496 + M < 9223372036854775808 := by omega
  rw [Nat.mod_eq_of_lt hb, Nat.div_eq_of_lt hb]
  rw [if_neg (by omega), if_pos (by omega)]
  have e1 : ((L + 1022) * 4503599627370496 + M) % 4503599627370496 = M - 4503599627370496 := by omega
  have e2 : ((L + 1022) * 4503599627370496 + M) / 4503599627370496 = L + 1023 := by omega
  rw [e1, e2]
  have e3 : 4503599627370496 + (M - 4503599627370496) = M := by omega
  have e4 : (-1074 : Int) + ((L + 1023 - 1 : Nat) : Int) = (L : Int) - 52 := by omega
  rw [e3, e4]
  rfl

/-- the word of a quotient -/
def rnd (a b : Nat) (e : Int) : Nat := Ieee.double.nearest false (2 * (a / b) + (a % b != 0).toNat) e

theorem div_fl (a b : Nat) (ha : a ≠ 0) (ha' : a < 2 ^ 53) (hb : b ≠ 0) (hb' : b < 2 ^ 53) :
    Ieee.double.div (fl a) (fl b) = some (rnd (a * 2 ^ (52 - a.log2) * 2 ^ 54) (b * 2 ^ (52 - b.log2)) ((a.log2 : Int) - b.log2 - 55)) := by
  obtain ⟨ha1, ha2⟩ := norm_bd a ha ha'
  obtain ⟨hb1, hb2⟩ := norm_bd b hb hb'
  unfold Format.div
  rw [read_fl a ha ha', read_fl b hb hb']
  have la := log_of _ 52 ha1 ha2
  have lb := log_of _ 52 hb1 hb2
  have hf : Ieee.double.fractionBits + 2 = 54 := rfl
  simp only [Datum.quotient]
  rw [if_neg (by omega), la, lb, hf]
  simp only [Nat.shiftLeft_eq, Nat.add_sub_cancel]
  simp only [Option.map_some, Format.write, rnd]
  congr 2
  omega

theorem div_fl_zero (b : Nat) (hb : b ≠ 0) (hb' : b < 2 ^ 53) : Ieee.double.div (fl 0) (fl b) = some 0 := by
  obtain ⟨hb1, hb2⟩ := norm_bd b hb hb'
  unfold Format.div
  rw [read_fl b hb hb', fl_zero]
  have h0 : Ieee.double.read 0 = .number false 0 (-1074) := by decide
  rw [h0]
  simp only [Datum.quotient]
  rw [if_neg (by omega)]
  simp only [Nat.zero_shiftLeft, Nat.zero_div, Nat.zero_mod]
  simp [Format.write, Format.nearest, Format.word]

theorem rnd_lt (a b : Nat) (e : Int) : rnd a b e ≤ 2047 * 2 ^ 52 := by
  unfold rnd Format.nearest
  dsimp only
  rw [infRung_eq]
  unfold Format.word
  split
  · simp
  · simp only [Bool.false_eq_true, if_false]; exact Nat.min_le_right ..

theorem rnd_scale (a b c : Nat) (e : Int) (hc : 0 < c) : rnd (a * c) (b * c) e = rnd a b e := by
  unfold rnd
  rw [Nat.mul_div_mul_right _ _ hc, Nat.mul_mod_mul_right]
  congr 3
  rw [Bool.eq_iff_iff]
  simp only [bne_iff_ne, ne_eq, Nat.mul_eq_zero]
  omega

theorem jam_cut (y c r r' Q z H : Nat) (st st' : Nat) (hy : y = Q * (2 * H) + z) (hz : z < 2 * H) (hc : c ≤ 1)
    (hst : st = if r = 0 then 0 else 1) (hst' : st' = if r' = 0 then 0 else 1) (h1 : r = 0 → c = 0 ∧ r' = 0) (h2 : c = 0 → r' = 0 → r = 0) :
    (2 * y + st) / (4 * H) = Q ∧ (2 * (2 * y + c) + st') / (8 * H) = Q ∧
    ((4 * H < 2 * ((2 * y + st) % (4 * H))) ↔ (8 * H < 2 * ((2 * (2 * y + c) + st') % (8 * H)))) ∧
    ((4 * H = 2 * ((2 * y + st) % (4 * H))) ↔ (8 * H = 2 * ((2 * (2 * y + c) + st') % (8 * H)))) := by
  have hs : st ≤ 1 := by rw [hst]; split <;> omega
  have hs' : st' ≤ 1 := by rw [hst']; split <;> omega
  have hH : 0 < H := by omega
  have q1 : 2 * y + st = Q * (4 * H) + (2 * z + st) := by
    rw [hy, Nat.mul_add, ← Nat.mul_assoc, Nat.mul_comm 2 Q, Nat.mul_assoc, show 2 * (2 * H) = 4 * H by omega]; omega
  have q2 : 2 * (2 * y + c) + st' = Q * (8 * H) + (4 * z + 2 * c + st') := by
    have : 4 * y = Q * (8 * H) + 4 * z := by
      rw [hy, Nat.mul_add, ← Nat.mul_assoc, Nat.mul_comm 4 Q, Nat.mul_assoc, show 4 * (2 * H) = 8 * H by omega]
    omega
  have d1 : (Q * (4 * H) + (2 * z + st)) / (4 * H) = Q := by
    rw [Nat.mul_comm Q, Nat.mul_add_div (by omega), Nat.div_eq_of_lt (by omega)]; rfl
  have d2 : (Q * (8 * H) + (4 * z + 2 * c + st')) / (8 * H) = Q := by
    rw [Nat.mul_comm Q, Nat.mul_add_div (by omega), Nat.div_eq_of_lt (by omega)]; rfl
  have m1 : (Q * (4 * H) + (2 * z + st)) % (4 * H) = 2 * z + st := by
    rw [Nat.mul_comm Q, Nat.mul_add_mod, Nat.mod_eq_of_lt (by omega)]
  have m2 : (Q * (8 * H) + (4 * z + 2 * c + st')) % (8 * H) = 4 * z + 2 * c + st' := by
    rw [Nat.mul_comm Q, Nat.mul_add_mod, Nat.mod_eq_of_lt (by omega)]
  rw [q1, q2, d1, d2, m1, m2]
  refine ⟨rfl, rfl, ?_, ?_⟩
  · by_cases e0 : r = 0
    · obtain ⟨rfl, e'⟩ := h1 e0
      rw [if_pos e0] at hst; rw [if_pos e'] at hst'; omega
    · rw [if_neg e0] at hst
      by_cases e' : r' = 0
      · have : c = 1 := by by_cases c0 : c = 0; exact absurd (h2 c0 e') e0; omega
        rw [if_pos e'] at hst'; omega
      · rw [if_neg e'] at hst'; omega
  · by_cases e0 : r = 0
    · obtain ⟨rfl, e'⟩ := h1 e0
      rw [if_pos e0] at hst; rw [if_pos e'] at hst'; omega
    · rw [if_neg e0] at hst
      by_cases e' : r' = 0
      · have : c = 1 := by by_cases c0 : c = 0; exact absurd (h2 c0 e') e0; omega
        rw [if_pos e'] at hst'; omega
      · rw [if_neg e'] at hst'; omega

theorem cut_pos (n d : Nat) (h : d ≤ n.log2) : Toward.even.cut false n d = n / 2 ^ d + (2 ^ d < 2 * (n % 2 ^ d) || (2 ^ d == 2 * (n % 2 ^ d) && n / 2 ^ d % 2 == 1)).toNat := by
  unfold Toward.cut
  dsimp only
  rw [show min d (n.log2 + 2) = d by omega, Nat.shiftLeft_eq, Nat.one_mul]

/-- a dividend of twice the size, at a place lower by one, has the same word -/
theorem rnd_double (a b : Nat) (e : Int) (hb : 0 < b) (h : 2 ^ 53 ≤ a / b) (he : -1000 ≤ e) : rnd (2 * a) b (e - 1) = rnd a b e := by
  obtain ⟨y, hy⟩ : ∃ y, y = a / b := ⟨_, rfl⟩
  obtain ⟨r, hr⟩ : ∃ r, r = a % b := ⟨_, rfl⟩
  have hab : a = b * y + r := by rw [hy, hr]; exact (Nat.div_add_mod a b).symm
  have hrb : r < b := by rw [hr]; exact Nat.mod_lt _ hb
  obtain ⟨c, r', hc, h2a, hr', hcr⟩ : ∃ c r', c ≤ 1 ∧ 2 * a = b * (2 * y + c) + r' ∧ r' < b ∧ r' + c * b = 2 * r := by
    by_cases h2 : 2 * r < b
    · exact ⟨0, 2 * r, by omega, by rw [hab, Nat.mul_add, Nat.add_zero, ← Nat.mul_assoc, ← Nat.mul_assoc, Nat.mul_comm 2 b], h2, by omega⟩
    · refine ⟨1, 2 * r - b, by omega, ?_, by omega, by omega⟩
      have : b * (2 * y + 1) = 2 * (b * y) + b := by rw [Nat.mul_add, Nat.mul_one, ← Nat.mul_assoc, Nat.mul_comm b 2, Nat.mul_assoc]
      rw [this, hab]; omega
  have d2 : 2 * a / b = 2 * y + c := by rw [h2a, Nat.mul_add_div hb, Nat.div_eq_of_lt hr']; rfl
  have m2 : 2 * a % b = r' := by rw [h2a, Nat.mul_add_mod, Nat.mod_eq_of_lt hr']
  unfold rnd
  rw [d2, m2, ← hy, ← hr]
  rw [← hy] at h
  have h1 : r = 0 → c = 0 ∧ r' = 0 := by
    intro e0
    by_cases c0 : c = 0
    · subst c0; omega
    · obtain rfl : c = 1 := by omega
      omega
  have h3 : c = 0 → r' = 0 → r = 0 := by intro e0 e1; subst e0; omega
  obtain ⟨st, hst⟩ : ∃ st, st = (r != 0).toNat := ⟨_, rfl⟩
  obtain ⟨st', hst'⟩ : ∃ st, st = (r' != 0).toNat := ⟨_, rfl⟩
  rw [← hst, ← hst']
  have hst2 : st = if r = 0 then 0 else 1 := by rw [hst]; by_cases e0 : r = 0 <;> simp [e0]
  have hst2' : st' = if r' = 0 then 0 else 1 := by rw [hst']; by_cases e0 : r' = 0 <;> simp [e0]
  have hs : st ≤ 1 := by rw [hst2]; split <;> omega
  have hs' : st' ≤ 1 := by rw [hst2']; split <;> omega
  clear hst hst' hcr h2a hab d2 m2 hr hy
  obtain ⟨t, ht⟩ : ∃ t, t = y.log2 := ⟨_, rfl⟩
  have y0 : y ≠ 0 := by omega
  have ht1 : 53 ≤ t := by rw [ht]; exact (Nat.le_log2 y0).2 h
  obtain ⟨hb1, hb2⟩ := log_bd y y0
  rw [← ht] at hb1 hb2
  have p1 : 2 ^ (t + 1) = 2 * 2 ^ t := by rw [Nat.pow_succ, Nat.mul_comm]
  have p2 : 2 ^ (t + 1 + 1) = 4 * 2 ^ t := by rw [Nat.pow_succ, p1]; omega
  have p3 : 2 ^ (t + 2 + 1) = 8 * 2 ^ t := by rw [Nat.pow_succ, show t + 2 = t + 1 + 1 by omega, p2]; omega
  have l1 : (2 * y + st).log2 = t + 1 := log_of _ _ (by omega) (by rw [p2]; omega)
  have l2 : (2 * (2 * y + c) + st').log2 = t + 2 := log_of _ _ (by rw [show t + 2 = t + 1 + 1 by omega, p2]; omega) (by rw [p3]; omega)
  obtain ⟨H, hH⟩ : ∃ H, H = 2 ^ (t - 53) := ⟨_, rfl⟩
  have hHp : 0 < H := by rw [hH]; exact Nat.two_pow_pos _
  have g1 : 2 ^ (t + 1 - 52) = 4 * H := by rw [hH, show t + 1 - 52 = t - 53 + 2 by omega, Nat.pow_add]; omega
  have g2 : 2 ^ (t + 2 - 52) = 8 * H := by rw [hH, show t + 2 - 52 = t - 53 + 3 by omega, Nat.pow_add]; omega
  obtain ⟨j1, j2, j3, j4⟩ := jam_cut y c r r' (y / (2 * H)) (y % (2 * H)) H st st' (by rw [Nat.mul_comm]; exact (Nat.div_add_mod _ _).symm) (Nat.mod_lt _ (by omega)) hc hst2 hst2' h1 h3
  unfold Format.nearest
  rw [if_neg (by omega), if_neg (by omega)]
  dsimp only
  rw [least_eq, l1, l2]
  have hf : ((Ieee.double.fractionBits : Nat) : Int) = 52 := rfl
  rw [hf]
  have e1 : max (e - 1 + ((t + 2 : Nat) : Int) - 52) (-1074) = e + ((t + 1 : Nat) : Int) - 52 := by omega
  have e2 : max (e + ((t + 1 : Nat) : Int) - 52) (-1074) = e + ((t + 1 : Nat) : Int) - 52 := by omega
  rw [e1, e2]
  have e3 : (e - 1 - (e + ((t + 1 : Nat) : Int) - 52)).toNat = 0 := by omega
  have e4 : (e - (e + ((t + 1 : Nat) : Int) - 52)).toNat = 0 := by omega
  have e5 : (e + ((t + 1 : Nat) : Int) - 52 - (e - 1)).toNat = t + 2 - 52 := by omega
  have e6 : (e + ((t + 1 : Nat) : Int) - 52 - e).toNat = t + 1 - 52 := by omega
  rw [e3, e4, e5, e6, Nat.shiftLeft_zero, Nat.shiftLeft_zero, cut_pos _ _ (by omega), cut_pos _ _ (by omega), g1, g2, j1, j2]
  congr 4
  rw [show (decide (8 * H < 2 * ((2 * (2 * y + c) + st') % (8 * H)))) = decide (4 * H < 2 * ((2 * y + st) % (4 * H))) from decide_eq_decide.2 j3.symm]
  rw [show (8 * H == 2 * ((2 * (2 * y + c) + st') % (8 * H))) = (4 * H == 2 * ((2 * y + st) % (4 * H))) by rw [Bool.eq_iff_iff]; simp only [beq_iff_eq]; exact j4.symm]

theorem log_mul (a c : Nat) (ha : a ≠ 0) (hc : c ≠ 0) : (a * c).log2 = a.log2 + c.log2 ∨ (a * c).log2 = a.log2 + c.log2 + 1 := by
  obtain ⟨a1, a2⟩ := log_bd a ha
  obtain ⟨c1, c2⟩ := log_bd c hc
  have h0 : a * c ≠ 0 := Nat.mul_ne_zero ha hc
  have lo : 2 ^ (a.log2 + c.log2) ≤ a * c := by rw [Nat.pow_add]; exact Nat.mul_le_mul a1 c1
  have hi : a * c < 2 ^ (a.log2 + c.log2 + 2) := by
    rw [show a.log2 + c.log2 + 2 = a.log2 + 1 + (c.log2 + 1) by omega, Nat.pow_add]
    exact Nat.mul_lt_mul'' a2 c2
  have l1 := (Nat.le_log2 h0).2 lo
  have l2 := (Nat.log2_lt h0).2 hi
  omega

/-- numbers that are both a great factor more have the same quotient -/
theorem div_scale (a b c : Nat) (hb : b ≠ 0) (hc : c ≠ 0) (hac : a * c < 2 ^ 53) (hbc : b * c < 2 ^ 53) :
    Ieee.double.div (fl (a * c)) (fl (b * c)) = Ieee.double.div (fl a) (fl b) := by
  have hb' : b < 2 ^ 53 := Nat.lt_of_le_of_lt (Nat.le_mul_of_pos_right b (by omega)) hbc
  have hbc0 : b * c ≠ 0 := Nat.mul_ne_zero hb hc
  by_cases ha : a = 0
  · subst ha; rw [Nat.zero_mul, div_fl_zero _ hbc0 hbc, div_fl_zero _ hb hb']
  have ha' : a < 2 ^ 53 := Nat.lt_of_le_of_lt (Nat.le_mul_of_pos_right a (by omega)) hac
  have hac0 : a * c ≠ 0 := Nat.mul_ne_zero ha hc
  rw [div_fl _ _ hac0 hac hbc0 hbc, div_fl _ _ ha ha' hb hb']
  refine congrArg some ?_
  obtain ⟨n1, n2⟩ := norm_bd _ ha ha'
  obtain ⟨n3, n4⟩ := norm_bd _ hb hb'
  obtain ⟨n5, n6⟩ := norm_bd _ hac0 hac
  obtain ⟨n7, n8⟩ := norm_bd _ hbc0 hbc
  have la := log_mul a c ha hc
  have lb := log_mul b c hb hc
  have lac := log_le _ hac0 hac
  have lbc := log_le _ hbc0 hbc
  have la0 := log_le _ ha ha'
  have lb0 := log_le _ hb hb'
  generalize (a * c).log2 = La' at *
  generalize (b * c).log2 = Lb' at *
  generalize a.log2 = La at *
  generalize b.log2 = Lb at *
  generalize c.log2 = Lc at *
  obtain ⟨s, hs⟩ : ∃ s, La' = La + s := ⟨La' - La, by omega⟩
  obtain ⟨t, ht⟩ : ∃ t, Lb' = Lb + t := ⟨Lb' - Lb, by omega⟩
  have ea : 2 ^ (52 - La) = 2 ^ (52 - La') * 2 ^ s := by rw [← Nat.pow_add]; congr 1; omega
  have eb : 2 ^ (52 - Lb) = 2 ^ (52 - Lb') * 2 ^ t := by rw [← Nat.pow_add]; congr 1; omega
  obtain ⟨A, hA⟩ : ∃ A, A = a * 2 ^ (52 - La') * 2 ^ 54 := ⟨_, rfl⟩
  obtain ⟨B, hB⟩ : ∃ B, B = b * 2 ^ (52 - Lb') := ⟨_, rfl⟩
  have k1 : a * c * 2 ^ (52 - La') * 2 ^ 54 = A * c := by rw [hA]; simp only [Nat.mul_assoc, Nat.mul_comm, Nat.mul_left_comm]
  have k2 : b * c * 2 ^ (52 - Lb') = B * c := by rw [hB]; simp only [Nat.mul_assoc, Nat.mul_comm, Nat.mul_left_comm]
  have k3 : a * 2 ^ (52 - La) * 2 ^ 54 = A * 2 ^ s := by rw [hA, ea]; simp only [Nat.mul_assoc, Nat.mul_comm, Nat.mul_left_comm]
  have k4 : b * 2 ^ (52 - Lb) = B * 2 ^ t := by rw [hB, eb]; simp only [Nat.mul_assoc]
  have hcp : 0 < c := by omega
  have q1 : 2 ^ 53 ≤ A / B := by
    rw [← Nat.mul_div_mul_right A B hcp, ← k1, ← k2]
    exact (Nat.le_div_iff_mul_le (by omega)).2 (Nat.le_trans (Nat.mul_le_mul_left _ (Nat.le_of_lt n8)) (by
      generalize a * c * 2 ^ (52 - La') = X at n5 ⊢
      simp only [Nat.reducePow, Nat.reduceMul] at n5 ⊢; omega))
  have q2 : 2 ^ 53 ≤ A * 2 ^ s / (B * 2 ^ t) := by
    rw [← k3, ← k4]
    exact (Nat.le_div_iff_mul_le (by omega)).2 (Nat.le_trans (Nat.mul_le_mul_left _ (Nat.le_of_lt n4)) (by
      generalize a * 2 ^ (52 - La) = X at n1 ⊢
      simp only [Nat.reducePow, Nat.reduceMul] at n1 ⊢; omega))
  have hBp : 0 < B := by rw [hB]; exact Nat.mul_pos (by omega) (Nat.two_pow_pos _)
  rw [k1, k2, k3, k4, rnd_scale _ _ _ _ hcp]
  have hst : s = t ∨ s = t + 1 ∨ t = s + 1 := by omega
  clear n1 n2 n3 n4 n5 n6 n7 n8 k1 k2 k3 k4 ea eb hA hB
  rcases hst with e | e | e
  · subst e
    rw [rnd_scale _ _ _ _ (Nat.two_pow_pos _)]
    congr 1; omega
  · subst e
    have r1 := rnd_double A B ((La' : Int) - Lb' - 55) hBp q1 (by omega)
    rw [show A * 2 ^ (t + 1) = 2 * A * 2 ^ t by rw [Nat.pow_succ, ← Nat.mul_assoc, Nat.mul_comm (A * 2 ^ t) 2, Nat.mul_assoc]]
    rw [rnd_scale _ _ _ _ (Nat.two_pow_pos _), ← r1]
    congr 1; omega
  · subst e
    rw [show B * 2 ^ (s + 1) = 2 * B * 2 ^ s by rw [Nat.pow_succ, ← Nat.mul_assoc, Nat.mul_comm (B * 2 ^ s) 2, Nat.mul_assoc]] at q2 ⊢
    rw [Nat.mul_div_mul_right _ _ (Nat.two_pow_pos _)] at q2
    rw [rnd_scale _ _ _ _ (Nat.two_pow_pos _)]
    have r1 := rnd_double A (2 * B) ((La : Int) - Lb - 55) (by omega) q2 (by omega)
    rw [← r1, Nat.mul_comm 2 A, Nat.mul_comm 2 B, rnd_scale _ _ _ _ (by omega)]
    congr 1; omega

/-! tens -/
theorem ten_one : fl 1 = 4607182418800017408 := by decide +kernel
theorem ten_step : ∀ k, k < 15 → Ieee.double.mul (fl (10 ^ k)) 4621819117588971520 = some (fl (10 ^ (k + 1))) := by decide +kernel
theorem ten_lt (k : Nat) (h : k ≤ 15) : 10 ^ k < 2 ^ 53 := Nat.lt_of_le_of_lt (Nat.pow_le_pow_right (by omega) h) (by decide)

/-- the value of n with k digits behind the stop -/
def quoB (n k : Nat) : Nat := (Ieee.double.div (fl n) (fl (10 ^ k))).getD 0
theorem opt_get {o : Option Nat} {v b : Nat} (h : o = some v) (hv : v ≤ b) : o = some (o.getD 0) ∧ o.getD 0 ≤ b := by subst h; exact ⟨rfl, hv⟩
theorem quo_is (n k : Nat) (hn : n < 2 ^ 53) (hk : k ≤ 15) : Ieee.double.div (fl n) (fl (10 ^ k)) = some (quoB n k) ∧ quoB n k ≤ 2047 * 2 ^ 52 := by
  unfold quoB
  have h10 : 10 ^ k ≠ 0 := by have := Nat.pow_pos (n := k) (show 0 < 10 by omega); omega
  by_cases h0 : n = 0
  · subst h0; exact opt_get (div_fl_zero _ h10 (ten_lt k hk)) (Nat.zero_le _)
  · exact opt_get (div_fl n _ h0 hn h10 (ten_lt k hk)) (rnd_lt _ _ _)
theorem quo_more (n k c : Nat) (hn : n * 10 ^ c < 2 ^ 53) (hk : k + c ≤ 15) : quoB (n * 10 ^ c) (k + c) = quoB n k := by
  unfold quoB
  have h1 : 10 ^ c ≠ 0 := by have := Nat.pow_pos (n := c) (show 0 < 10 by omega); omega
  have h2 : 10 ^ k ≠ 0 := by have := Nat.pow_pos (n := k) (show 0 < 10 by omega); omega
  rw [Nat.pow_add, div_scale n _ _ h2 h1 hn (by rw [← Nat.pow_add]; exact ten_lt _ hk)]

/-! signs -/
theorem nan_small (b : Nat) (h : b ≤ 2047 * 2 ^ 52) : isNan b = false := by
  unfold isNan Format.read
  rw [least_eq, binade_eq, infRung_eq, weight_eq]
  simp only [Nat.reducePow, Nat.reduceMul] at h ⊢
  rw [Nat.mod_eq_of_lt (by omega)]
  split
  · rfl
  · split
    · rfl
    · split
      · rfl
      · omega
theorem nan_neg (b : Nat) (h : b ≤ 2047 * 2 ^ 52) : isNan (b + 2 ^ 63) = false := by
  unfold isNan Format.read
  rw [least_eq, binade_eq, infRung_eq, weight_eq]
  simp only [Nat.reducePow, Nat.reduceMul] at h ⊢
  rw [show (b + 9223372036854775808) % 9223372036854775808 = b by omega]
  split
  · rfl
  · split
    · rfl
    · split
      · rfl
      · omega
theorem xor_top (b : Nat) (h : b < 2 ^ 63) : b ^^^ 2 ^ 63 = b + 2 ^ 63 := by
  apply Nat.eq_of_testBit_eq
  intro i
  rw [Nat.testBit_xor, Nat.add_comm, Nat.testBit_two_pow]
  by_cases hi : i = 63
  · subst hi; rw [Nat.testBit_two_pow_add_eq, Nat.testBit_lt_two_pow h]; rfl
  · rcases Nat.lt_or_ge i 63 with h' | h'
    · rw [Nat.testBit_two_pow_add_gt h']; simp [Ne.symm hi]
    · rw [Nat.testBit_lt_two_pow (show b < 2 ^ i from Nat.lt_of_lt_of_le h (Nat.pow_le_pow_right (by omega) h'))]
      rw [Nat.testBit_lt_two_pow (show 2 ^ 63 + b < 2 ^ i from Nat.lt_of_lt_of_le (show 2 ^ 63 + b < 2 ^ 64 by simp only [Nat.reducePow] at h ⊢; omega) (Nat.pow_le_pow_right (by omega) (by omega)))]
      simp [Ne.symm hi]
theorem neg_top (b : Nat) (h : b ≤ 2047 * 2 ^ 52) : Op.negFloat .f64 b = b + 2 ^ 63 := xor_top b (by simp only [Nat.reducePow, Nat.reduceMul] at h ⊢; omega)
theorem nan_asked (t : Nat) (x y : Nat) : isNan ((Question.nanBits .f64 x y).cut t) = true := by
  obtain ⟨u, hu⟩ : ∃ u, u = t % 2 := ⟨_, rfl⟩
  obtain ⟨v, hv⟩ : ∃ v, v = t / 2 % (2 ^ 52 - 1) := ⟨_, rfl⟩
  have hv2 : v < 2 ^ 52 - 1 := by rw [hv]; exact Nat.mod_lt _ (by decide)
  have hu2 : u < 2 := by omega
  have : (Question.nanBits .f64 x y).cut t = u * 2 ^ 63 + 9218868437227405312 + 1 + v := by rw [hu, hv]; rfl
  rw [this]
  clear hu hv this
  unfold isNan Format.read
  rw [least_eq, binade_eq, infRung_eq, weight_eq]
  simp only [Nat.reducePow, Nat.reduceMul, Nat.reduceSub] at hv2 ⊢
  rw [show (u * 9223372036854775808 + 9218868437227405312 + 1 + v) % 9223372036854775808 = 9218868437227405313 + v by omega]
  rw [if_neg (by omega), if_neg (by omega), if_neg (by omega)]
  rfl

end Go.Proofs.YtoadpeigomkgiaaDoor

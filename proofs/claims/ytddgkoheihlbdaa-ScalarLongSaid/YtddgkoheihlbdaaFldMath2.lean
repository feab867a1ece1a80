/- field: the bytes of a number, bit by bit (plain). -/
import Derived.Test.YtddgkoheihlbdaaFldMath
namespace Go.Proofs.Ytddgkoheihlbdaa

/-- byte j of the lowest i bits of n -/
def byteAt (n i j : Nat) : Nat := n % 2 ^ i / 256 ^ j % 256
/-- bit i of n -/
def bitAt (n i : Nat) : Nat := n / 2 ^ i % 2

theorem byteAt_lt (n i j : Nat) : byteAt n i j < 256 := Nat.mod_lt _ (by omega)
theorem bitAt_lt (n i : Nat) : bitAt n i < 2 := Nat.mod_lt _ (by omega)
theorem byteAt_zero (n j : Nat) : byteAt n 0 j = 0 := by simp [byteAt, Nat.mod_one]

theorem pow256 (j : Nat) : 256 ^ j = 2 ^ (8 * j) := by rw [Nat.pow_mul]

theorem byteAt_other (n i j : Nat) (h : j ≠ i / 8) : byteAt n (i + 1) j = byteAt n i j := by
  unfold byteAt
  rw [Nat.mod_pow_succ]
  rcases Nat.lt_or_gt_of_ne h with h | h
  · obtain ⟨e, he⟩ : ∃ e, i = 8 * j + (8 + e) := ⟨i - 8 * j - 8, by omega⟩
    rw [show (2 : Nat) ^ i * (n / 2 ^ i % 2) = 256 ^ j * (256 * (2 ^ e * (n / 2 ^ i % 2))) by
      rw [pow256]; conv => lhs; lhs; rw [he]
      rw [Nat.pow_add, Nat.pow_add]; simp only [Nat.mul_assoc]]
    rw [Nat.add_mul_div_left _ _ (Nat.pos_of_ne_zero (by simp)), Nat.add_mul_mod_self_left]
  · have h1 : n % 2 ^ i < 2 ^ i := Nat.mod_lt _ (Nat.pos_of_ne_zero (by simp))
    have h2 : 2 ^ (i + 1) ≤ 256 ^ j := by rw [pow256]; exact Nat.pow_le_pow_right (by omega) (by omega)
    have h3 : n / 2 ^ i % 2 ≤ 1 := by omega
    have h4 : 2 ^ i * (n / 2 ^ i % 2) ≤ 2 ^ i * 1 := Nat.mul_le_mul_left _ h3
    rw [Nat.pow_succ] at h2
    rw [Nat.div_eq_of_lt (by omega), Nat.div_eq_of_lt (by omega)]

theorem byteAt_here (n i : Nat) : byteAt n (i + 1) (i / 8) = byteAt n i (i / 8) ||| (bitAt n i * 2 ^ (i % 8)) := by
  have hi : (2 : Nat) ^ i = 256 ^ (i / 8) * 2 ^ (i % 8) := by rw [pow256, ← Nat.pow_add]; congr 1; omega
  have h1 : n % 2 ^ i < 2 ^ i := Nat.mod_lt _ (Nat.pos_of_ne_zero (by simp))
  have h2 : n % 2 ^ i / 256 ^ (i / 8) < 2 ^ (i % 8) := by
    rw [Nat.div_lt_iff_lt_mul (Nat.pos_of_ne_zero (by simp)), Nat.mul_comm, ← hi]; exact h1
  have h3 : (2 : Nat) ^ (i % 8) ≤ 128 := by
    have : (2 : Nat) ^ (i % 8) ≤ 2 ^ 7 := Nat.pow_le_pow_right (by omega) (by omega)
    omega
  have hb : bitAt n i = 0 ∨ bitAt n i = 1 := by have := bitAt_lt n i; omega
  have e : n % 2 ^ (i + 1) / 256 ^ (i / 8) = n % 2 ^ i / 256 ^ (i / 8) + 2 ^ (i % 8) * bitAt n i := by
    rw [Nat.mod_pow_succ]
    show (n % 2 ^ i + 2 ^ i * bitAt n i) / 256 ^ (i / 8) = _
    conv => lhs; lhs; rhs; rw [hi, Nat.mul_assoc]
    rw [Nat.add_mul_div_left _ _ (Nat.pos_of_ne_zero (by simp))]
  unfold byteAt
  rw [e]
  have f : n % 2 ^ i / 256 ^ (i / 8) % 256 = n % 2 ^ i / 256 ^ (i / 8) := Nat.mod_eq_of_lt (by omega)
  rw [f]
  have g := Nat.two_pow_add_eq_or_of_lt h2 (bitAt n i)
  rw [Nat.or_comm, Nat.mul_comm (bitAt n i), ← g, Nat.add_comm]
  rcases hb with hb | hb <;> rw [hb] <;> exact Nat.mod_eq_of_lt (by omega)

/-- limb l of five -/
def L5.at (x : L5) : Nat → Nat | 0 => x.a | 1 => x.b | 2 => x.c | 3 => x.d | _ => x.e

theorem bit_mod (y s k : Nat) (h : s < k) : y % 2 ^ k / 2 ^ s % 2 = y / 2 ^ s % 2 := by
  obtain ⟨e, rfl⟩ : ∃ e, k = s + (e + 1) := ⟨k - s - 1, by omega⟩
  rw [Nat.pow_add, Nat.mod_mul_right_div_self, Nat.pow_succ, Nat.mod_mul_left_mod]

theorem limb_of (x : L5) (h : x.lt 2251799813685248) (l : Nat) (hl : l < 5) : x.val / 2 ^ (51 * l) % 2 ^ 51 = x.at l := by
  obtain ⟨a, b, c, d, e⟩ := x
  obtain ⟨h1, h2, h3, h4, h5⟩ := h
  simp only at h1 h2 h3 h4 h5
  match l, hl with
  | 0, _ => simp only [L5.val, L5.at]; omega
  | 1, _ => simp only [L5.val, L5.at]; omega
  | 2, _ => simp only [L5.val, L5.at]; omega
  | 3, _ => simp only [L5.val, L5.at]; omega
  | 4, _ => simp only [L5.val, L5.at]; omega

theorem bit_of_limb (x : L5) (h : x.lt 2251799813685248) (i : Nat) (hi : i < 255) : x.at (i / 51) / 2 ^ (i % 51) % 2 = bitAt x.val i := by
  rw [← limb_of x h (i / 51) (by omega), bit_mod _ _ _ (Nat.mod_lt _ (by omega)), Nat.div_div_eq_div_mul, ← Nat.pow_add]
  unfold bitAt
  congr 3
  omega

/-- the bytes of a number: the lowest 255 bits -/
def bytes255 (n : Nat) : List Nat := (List.range 32).map (fun j => n / 256 ^ j % 256)

theorem byteAt_end (n j : Nat) (h : n < 2 ^ 255) : byteAt n 255 j = n / 256 ^ j % 256 := by
  unfold byteAt; rw [Nat.mod_eq_of_lt h]
end Go.Proofs.Ytddgkoheihlbdaa

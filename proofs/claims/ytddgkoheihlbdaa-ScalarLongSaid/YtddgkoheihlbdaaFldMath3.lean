/- field: the limbs of a number, bit by bit; numbers out of bytes (plain). -/
import Derived.Test.YtddgkoheihlbdaaFldMath2
namespace Go.Proofs.Ytddgkoheihlbdaa

/-- chunk j, of b bits, of the lowest i bits of n -/
def chunk (b n i j : Nat) : Nat := n % 2 ^ i / 2 ^ (b * j) % 2 ^ b

theorem chunk_lt (b n i j : Nat) : chunk b n i j < 2 ^ b := Nat.mod_lt _ (Nat.pow_pos (by omega))
theorem chunk_zero (b n j : Nat) : chunk b n 0 j = 0 := by simp [chunk, Nat.mod_one]

theorem chunk_other (b n i j : Nat) (hb : 0 < b) (h : j ≠ i / b) : chunk b n (i + 1) j = chunk b n i j := by
  unfold chunk
  rw [Nat.mod_pow_succ]
  rcases Nat.lt_or_gt_of_ne h with h | h
  · have hle : (j + 1) * b ≤ i := (Nat.le_div_iff_mul_le hb).1 h
    rw [Nat.succ_mul, Nat.mul_comm] at hle
    obtain ⟨e, he⟩ : ∃ e, i = b * j + (b + e) := ⟨i - b * j - b, by omega⟩
    rw [show (2 : Nat) ^ i * (n / 2 ^ i % 2) = 2 ^ (b * j) * (2 ^ b * (2 ^ e * (n / 2 ^ i % 2))) by
      conv => lhs; lhs; rw [he]
      rw [Nat.pow_add, Nat.pow_add]; simp only [Nat.mul_assoc]]
    rw [Nat.add_mul_div_left _ _ (Nat.pos_of_ne_zero (by simp)), Nat.add_mul_mod_self_left]
  · have hle : i < j * b := (Nat.div_lt_iff_lt_mul hb).1 h
    rw [Nat.mul_comm] at hle
    have h1 : n % 2 ^ i < 2 ^ i := Nat.mod_lt _ (Nat.pos_of_ne_zero (by simp))
    have h2 : 2 ^ (i + 1) ≤ 2 ^ (b * j) := Nat.pow_le_pow_right (by omega) (by omega)
    have h3 : n / 2 ^ i % 2 ≤ 1 := by omega
    have h4 : 2 ^ i * (n / 2 ^ i % 2) ≤ 2 ^ i * 1 := Nat.mul_le_mul_left _ h3
    rw [Nat.pow_succ] at h2
    rw [Nat.div_eq_of_lt (by omega), Nat.div_eq_of_lt (by omega)]

theorem chunk_here (b n i : Nat) (hb : 0 < b) : chunk b n (i + 1) (i / b) = chunk b n i (i / b) ||| (bitAt n i * 2 ^ (i % b)) := by
  have hm := Nat.mod_lt i hb
  have hi : (2 : Nat) ^ i = 2 ^ (b * (i / b)) * 2 ^ (i % b) := by rw [← Nat.pow_add, Nat.div_add_mod]
  have h1 : n % 2 ^ i < 2 ^ i := Nat.mod_lt _ (Nat.pos_of_ne_zero (by simp))
  have h2 : n % 2 ^ i / 2 ^ (b * (i / b)) < 2 ^ (i % b) := by
    rw [Nat.div_lt_iff_lt_mul (Nat.pos_of_ne_zero (by simp)), Nat.mul_comm, ← hi]; exact h1
  have h3 : (2 : Nat) ^ (i % b) * 2 ≤ 2 ^ b := by
    rw [← Nat.pow_succ]; exact Nat.pow_le_pow_right (by omega) (by omega)
  have hb' : bitAt n i = 0 ∨ bitAt n i = 1 := by have := bitAt_lt n i; omega
  have e : n % 2 ^ (i + 1) / 2 ^ (b * (i / b)) = n % 2 ^ i / 2 ^ (b * (i / b)) + 2 ^ (i % b) * bitAt n i := by
    rw [Nat.mod_pow_succ]
    show (n % 2 ^ i + 2 ^ i * bitAt n i) / 2 ^ (b * (i / b)) = _
    conv => lhs; lhs; rhs; rw [hi, Nat.mul_assoc]
    rw [Nat.add_mul_div_left _ _ (Nat.pos_of_ne_zero (by simp))]
  unfold chunk
  rw [e]
  have f : n % 2 ^ i / 2 ^ (b * (i / b)) % 2 ^ b = n % 2 ^ i / 2 ^ (b * (i / b)) := Nat.mod_eq_of_lt (by omega)
  rw [f]
  have g := Nat.two_pow_add_eq_or_of_lt h2 (bitAt n i)
  rw [Nat.or_comm, Nat.mul_comm (bitAt n i), ← g, Nat.add_comm]
  rcases hb' with hb' | hb' <;> rw [hb'] <;> exact Nat.mod_eq_of_lt (by omega)

/-- the five limbs of a number -/
def L5.of (n : Nat) : L5 := ⟨n % 2251799813685248, n / 2251799813685248 % 2251799813685248, n / 5070602400912917605986812821504 % 2251799813685248, n / 11417981541647679048466287755595961091061972992 % 2251799813685248, n / 25711008708143844408671393477458601640355247900524685364822016 % 2251799813685248⟩
theorem of_lt (n : Nat) : (L5.of n).lt 2251799813685248 := ⟨Nat.mod_lt _ (by omega), Nat.mod_lt _ (by omega), Nat.mod_lt _ (by omega), Nat.mod_lt _ (by omega), Nat.mod_lt _ (by omega)⟩
theorem of_val (n : Nat) : (L5.of n).val = n % 57896044618658097711785492504343953926634992332820282019728792003956564819968 := by
  simp only [L5.of, L5.val]; omega
theorem of_chunks (n : Nat) : L5.of n = ⟨chunk 51 n 255 0, chunk 51 n 255 1, chunk 51 n 255 2, chunk 51 n 255 3, chunk 51 n 255 4⟩ := by
  simp only [L5.of, chunk, Nat.reduceMul, Nat.reducePow, Nat.div_one, L5.mk.injEq]
  refine ⟨?_, ?_, ?_, ?_, ?_⟩ <;> omega

/-- the number that bytes are, the lowest first -/
def leNat : List UInt8 → Nat | [] => 0 | c :: l => c.toNat + 256 * leNat l
theorem leNat_lt : ∀ l : List UInt8, leNat l < 256 ^ l.length
  | [] => by simp [leNat]
  | c :: l => by
    have := leNat_lt l
    have hc := c.toNat_lt
    simp only [leNat, List.length_cons, Nat.pow_succ]
    omega
theorem leNat_byte : ∀ (l : List UInt8) (j : Nat), leNat l / 256 ^ j % 256 = (l.getD j 0).toNat
  | [], j => by simp [leNat]
  | c :: l, 0 => by
    have hc := c.toNat_lt
    simp only [leNat, Nat.pow_zero, Nat.div_one, List.getD_cons_zero]
    omega
  | c :: l, j + 1 => by
    have hc := c.toNat_lt
    rw [List.getD_cons_succ, ← leNat_byte l j, Nat.pow_succ', ← Nat.div_div_eq_div_mul]
    congr 2
    simp only [leNat]
    omega
theorem leNat_bit (l : List UInt8) (k : Nat) : (l.getD (k / 8) 0).toNat / 2 ^ (k % 8) % 2 = bitAt (leNat l) k := by
  rw [← leNat_byte, show (256 : Nat) = 2 ^ 8 from rfl, bit_mod _ _ _ (Nat.mod_lt _ (by omega)), Nat.div_div_eq_div_mul, ← Nat.pow_mul, ← Nat.pow_add]
  unfold bitAt
  congr 3
  omega

theorem bytes_inj (n m k : Nat) (h : ∀ j, j < k → n / 256 ^ j % 256 = m / 256 ^ j % 256) : n % 256 ^ k = m % 256 ^ k := by
  induction k with
  | zero => simp [Nat.mod_one]
  | succ k ih =>
    rw [Nat.mod_pow_succ, Nat.mod_pow_succ, ih fun j hj => h j (by omega), h k (by omega)]

theorem get_eq (l : List UInt8) (hl : l.length = 32) (k : Nat) (hk : k = 32) :
    decide (∀ i, i < k → byteAt (leNat l % 57896044618658097711785492504343953926634992332820282019728792003956564819968 % P25) 255 i = (l.getD i 0).toNat) = decide (leNat l < P25) := by
  subst hk
  have hlt := leNat_lt l
  rw [hl] at hlt
  have hp : P25 < 57896044618658097711785492504343953926634992332820282019728792003956564819968 := by unfold P25; omega
  have hm : leNat l % 57896044618658097711785492504343953926634992332820282019728792003956564819968 % P25 < P25 := Nat.mod_lt _ (by unfold P25; omega)
  rw [Bool.eq_iff_iff]
  simp only [decide_eq_true_eq]
  constructor
  · intro h
    have := bytes_inj (leNat l % 57896044618658097711785492504343953926634992332820282019728792003956564819968 % P25) (leNat l) 32 fun j hj => by
      have := h j hj
      rw [byteAt_end _ _ (by omega)] at this
      rw [this, leNat_byte]
    rw [Nat.mod_eq_of_lt (by omega), Nat.mod_eq_of_lt hlt] at this
    omega
  · intro h i _
    rw [Nat.mod_eq_of_lt (show leNat l < 57896044618658097711785492504343953926634992332820282019728792003956564819968 by omega), Nat.mod_eq_of_lt h, byteAt_end _ _ (by omega), leNat_byte]
end Go.Proofs.Ytddgkoheihlbdaa

/- field: the document's sums, negatives and products: plain numbers. -/
import Derived.Test.YtddgkoheihlbdaaFldRefMath
namespace Go.Proofs.Ytddgkoheihlbdaa

theorem fval_add (f g : Nat → Nat) : ∀ n, fval (fun j => f j + g j) n = fval f n + fval g n
  | 0 => rfl
  | n + 1 => by simp only [fval]; rw [fval_add f g n, Nat.add_mul]; omega
theorem fval_mul (c : Nat) (f : Nat → Nat) : ∀ n, fval (fun j => c * f j) n = c * fval f n
  | 0 => rfl
  | n + 1 => by simp only [fval]; rw [fval_mul c f n, Nat.mul_add, Nat.mul_assoc]
theorem fval_upd (f : Nat → Nat) (i v : Nat) : ∀ n, (i < n → fval (upd f i v) n + f i * 65536 ^ i = fval f n + v * 65536 ^ i) ∧ (n ≤ i → fval (upd f i v) n = fval f n)
  | 0 => ⟨fun h => by omega, fun _ => rfl⟩
  | n + 1 => by
    obtain ⟨h1, h2⟩ := fval_upd f i v n
    refine ⟨fun h => ?_, fun h => ?_⟩
    · simp only [fval]
      by_cases e : n = i
      · subst e
        rw [h2 (Nat.le_refl _)]
        simp only [upd, if_true]; omega
      · have := h1 (by omega)
        simp only [upd, if_neg e]
        unfold upd at this
        omega
    · simp only [fval]
      rw [h2 (by omega)]
      unfold upd
      rw [if_neg (by omega)]
theorem fval_shift (f : Nat → Nat) (k : Nat) : ∀ n, fval f (k + n) = fval f k + 65536 ^ k * fval (fun j => f (k + j)) n
  | 0 => by simp [fval]
  | n + 1 => by
    rw [← Nat.add_assoc, fval, fval_shift f k n, fval, Nat.mul_add, Nat.pow_add]
    simp only [Nat.mul_left_comm, Nat.add_assoc]
theorem fval_zero : ∀ n, fval (fun _ => 0) n = 0
  | 0 => rfl
  | n + 1 => by simp [fval, fval_zero n]

/-- what is borrowed from limb i of p less n -/
def br (n : Nat) : Nat → Nat | 0 => 0 | i + 1 => 1 - (dig P25 i + 65536 - dig n i - br n i) / 65536
def bd (n i : Nat) : Nat := (dig P25 i + 65536 - dig n i - br n i) % 65536
theorem br_le (n : Nat) : ∀ i, br n i ≤ 1
  | 0 => by simp [br]
  | i + 1 => by rw [br]; omega
theorem bd_val (n : Nat) : ∀ i, fval (bd n) i + fval (dig n) i = fval (dig P25) i + 65536 ^ i * br n i
  | 0 => by simp [fval, br]
  | i + 1 => by
    have ih := bd_val n i
    have hb := br_le n i
    have hp := dig_lt P25 i
    have hn := dig_lt n i
    have e1 : bd n i + dig n i + br n i = dig P25 i + 65536 * br n (i + 1) := by
      rw [br]; unfold bd; omega
    have e2 := congrArg (65536 ^ i * ·) e1
    simp only [Nat.mul_add] at e2
    simp only [fval, Nat.pow_succ]
    rw [Nat.mul_comm (bd n i), Nat.mul_comm (dig n i), Nat.mul_comm (dig P25 i), Nat.mul_assoc]
    omega
theorem bd_lt (n i : Nat) : bd n i < 65536 := Nat.mod_lt _ (by omega)
theorem neg_val (n : Nat) (h : n ≤ P25) : fval (bd n) 16 = P25 - n := by
  have h1 := bd_val n 16
  have h2 := fval_lt 16 fun j _ => bd_lt n j
  have h3 := br_le n 16
  have hP : P25 < 115792089237316195423570985008687907853269984665640564039457584007913129639936 := by unfold P25; omega
  rw [fval_of_dig, fval_of_dig] at h1
  simp only [Nat.reducePow] at h1 h2
  rw [Nat.mod_eq_of_lt hP, Nat.mod_eq_of_lt (by omega)] at h1
  have : br n 16 = 0 := by
    rcases Nat.eq_zero_or_pos (br n 16) with h | h
    · exact h
    · have : br n 16 = 1 := by omega
      rw [this] at h1; omega
  rw [this] at h1
  omega

/-- row i of the products, k of them put to u -/
def rowF (x y : Nat → Nat) (i : Nat) (u : Nat → Nat) : Nat → Nat → Nat
  | 0 => u
  | k + 1 => upd (rowF x y i u k) (i + k) (rowF x y i u k (i + k) + x i * y k)
def allF (x y : Nat → Nat) : Nat → Nat → Nat
  | 0 => fun _ => 0
  | i + 1 => rowF x y i (allF x y i) 16
theorem rowF_val (x y : Nat → Nat) (i : Nat) (u : Nat → Nat) (N : Nat) (hi : i + 16 ≤ N) : ∀ k, k ≤ 16 → fval (rowF x y i u k) N = fval u N + x i * 65536 ^ i * fval y k
  | 0, _ => by simp [rowF, fval]
  | k + 1, hk => by
    have ih := rowF_val x y i u N hi k (by omega)
    have h := (fval_upd (rowF x y i u k) (i + k) (rowF x y i u k (i + k) + x i * y k) N).1 (by omega)
    rw [Nat.add_mul] at h
    have e : x i * 65536 ^ i * (y k * 65536 ^ k) = x i * y k * 65536 ^ (i + k) := by
      rw [Nat.pow_add]; simp only [Nat.mul_assoc, Nat.mul_left_comm]
    rw [rowF, show fval y (k + 1) = fval y k + y k * 65536 ^ k from rfl, Nat.mul_add, e]
    omega
theorem allF_valN (x y : Nat → Nat) (N : Nat) (hN : N = 32) : ∀ i, i ≤ 16 → fval (allF x y i) N = fval x i * fval y 16
  | 0, _ => by rw [allF, fval_zero]; simp [fval]
  | i + 1, hi => by
    rw [allF, rowF_val x y i _ N (by omega) 16 (Nat.le_refl _), allF_valN x y N hN i (by omega), show fval x (i + 1) = fval x i + x i * 65536 ^ i from rfl, Nat.add_mul]
theorem allF_val (x y : Nat → Nat) : fval (allF x y 16) 32 = fval x 16 * fval y 16 := allF_valN x y 32 rfl 16 (Nat.le_refl _)
theorem rowF_le {x y : Nat → Nat} (hx : ∀ j, x j < 65536) (hy : ∀ j, y j < 65536) (i : Nat) {u : Nat → Nat} {M : Nat} (hu : ∀ j, u j ≤ M) : ∀ k j, rowF x y i u k j ≤ M + 4294967296 * k
  | 0, j => by simpa [rowF] using hu j
  | k + 1, j => by
    have ih := rowF_le hx hy i hu k
    have h1 := hx i
    have h2 := hy k
    have h3 : x i * y k ≤ 65536 * 65536 := Nat.mul_le_mul (by omega) (by omega)
    rw [rowF]; unfold upd
    split
    · have := ih (i + k); omega
    · have := ih j; omega
theorem allF_le {x y : Nat → Nat} (hx : ∀ j, x j < 65536) (hy : ∀ j, y j < 65536) : ∀ i j, allF x y i j ≤ 68719476736 * i
  | 0, j => by simp [allF]
  | i + 1, j => by
    have := rowF_le hx hy i (allF_le hx hy i) 16 j
    rw [allF]; omega
/-- folded: 2^256 is 38 -/
def foldF (v : Nat → Nat) (j : Nat) : Nat := v j + 38 * v (j + 16)
theorem foldF_mod (v : Nat → Nat) : fval (foldF v) 16 % P25 = fval v 32 % P25 := by
  have h := fval_shift v 16 16
  have e : fval (foldF v) 16 = fval v 16 + 38 * fval (fun j => v (16 + j)) 16 := by
    rw [← fval_mul, ← fval_add]
    apply fval_congr
    intro j _
    simp only [foldF, Nat.add_comm 16 j]
  simp only [Nat.reducePow, Nat.reduceAdd] at h
  have : fval v 32 = fval (foldF v) 16 + P25 * (2 * fval (fun j => v (16 + j)) 16) := by
    rw [e, h]; unfold P25; omega
  rw [this, Nat.add_mul_mod_self_left]
end Go.Proofs.Ytddgkoheihlbdaa

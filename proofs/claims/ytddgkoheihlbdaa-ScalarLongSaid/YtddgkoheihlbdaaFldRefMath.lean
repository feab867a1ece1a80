/- field: the document's sixteen limbs of 16 bits: plain numbers. -/
import Derived.Test.YtddgkoheihlbdaaFldMath
namespace Go.Proofs.Ytddgkoheihlbdaa

def fval (f : Nat → Nat) : Nat → Nat | 0 => 0 | n + 1 => fval f n + f n * 65536 ^ n
/-- the carry into limb i -/
def cr (f : Nat → Nat) : Nat → Nat | 0 => 0 | i + 1 => (f i + cr f i) / 65536
def nf (f : Nat → Nat) (j : Nat) : Nat := (f j + cr f j) % 65536
/-- carried up to limb i -/
def pf (f : Nat → Nat) (i j : Nat) : Nat := if j < i then nf f j else f j
def upd (f : Nat → Nat) (i v : Nat) (j : Nat) : Nat := if j = i then v else f j

theorem pf_zero (f : Nat → Nat) : pf f 0 = f := by funext j; simp [pf]
theorem pf_step (f : Nat → Nat) (i : Nat) : upd (pf f i) i (nf f i) = pf f (i + 1) := by
  funext j
  unfold upd pf
  by_cases h : j = i
  · subst h; simp
  · by_cases h2 : j < i
    · rw [if_neg h, if_pos h2, if_pos (by omega)]
    · rw [if_neg h, if_neg h2, if_neg (by omega)]
theorem pf_here (f : Nat → Nat) (i : Nat) : pf f i i = f i := by simp [pf]
theorem nf_lt (f : Nat → Nat) (j : Nat) : nf f j < 65536 := Nat.mod_lt _ (by omega)
theorem fval_cr (f : Nat → Nat) : ∀ n, fval f n = fval (nf f) n + 65536 ^ n * cr f n
  | 0 => by simp [fval, cr]
  | n + 1 => by
    have h := Nat.div_add_mod (f n + cr f n) 65536
    have e : fval f (n + 1) = fval (nf f) n + 65536 ^ n * (f n + cr f n) := by
      rw [fval, fval_cr f n, Nat.mul_add, Nat.mul_comm (f n)]; omega
    rw [e, fval]
    show _ = fval (nf f) n + (f n + cr f n) % 65536 * 65536 ^ n + 65536 ^ (n + 1) * ((f n + cr f n) / 65536)
    conv => lhs; rw [← h]
    rw [Nat.mul_add, Nat.pow_succ, Nat.mul_comm ((f n + cr f n) % 65536), ← Nat.mul_assoc]
    omega
theorem fval_congr {f g : Nat → Nat} : ∀ n, (∀ j, j < n → f j = g j) → fval f n = fval g n
  | 0, _ => rfl
  | n + 1, h => by rw [fval, fval, fval_congr n fun j hj => h j (by omega), h n (by omega)]
theorem fval_lt {f : Nat → Nat} : ∀ n, (∀ j, j < n → f j < 65536) → fval f n < 65536 ^ n
  | 0, _ => by simp [fval]
  | n + 1, h => by
    have h1 := fval_lt n fun j hj => h j (by omega)
    have h2 : f n * 65536 ^ n ≤ 65535 * 65536 ^ n := Nat.mul_le_mul_right _ (by have := h n (by omega); omega)
    rw [fval, Nat.pow_succ]; omega
/-- the digits are the number's -/
theorem fval_dig {f : Nat → Nat} : ∀ n, (∀ j, j < n → f j < 65536) → ∀ j, j < n → f j = fval f n / 65536 ^ j % 65536
  | 0, _, j, hj => by omega
  | n + 1, h, j, hj => by
    have h1 := fval_lt n fun j hj => h j (by omega)
    rw [fval]
    by_cases e : j = n
    · subst e
      rw [Nat.add_mul_div_right _ _ (Nat.pow_pos (by omega)), Nat.div_eq_of_lt h1, Nat.zero_add, Nat.mod_eq_of_lt (h j (by omega))]
    · have hlt : j < n := by omega
      rw [fval_dig n (fun j hj => h j (by omega)) j hlt]
      obtain ⟨k, rfl⟩ : ∃ k, n = j + (k + 1) := ⟨n - j - 1, by omega⟩
      rw [Nat.pow_add, Nat.pow_succ 65536 k]
      rw [show f (j + (k + 1)) * (65536 ^ j * (65536 ^ k * 65536)) = (f (j + (k + 1)) * 65536 ^ k * 65536) * 65536 ^ j by
        simp only [Nat.mul_comm, Nat.mul_left_comm]]
      rw [Nat.add_mul_div_right _ _ (Nat.pow_pos (by omega)), Nat.add_mul_mod_self_right]

def over (f : Nat → Nat) : Nat := 2 * cr f 16 + nf f 15 / 32768
/-- once round: carried, and folded -/
def turn (f : Nat → Nat) (j : Nat) : Nat := if j = 0 then nf f 0 + 19 * over f else if j = 15 then nf f 15 % 32768 else nf f j

theorem fval16 (f : Nat → Nat) : fval f 16 = f 0 + f 1 * 65536 + f 2 * 4294967296 + f 3 * 281474976710656 + f 4 * 18446744073709551616 + f 5 * 1208925819614629174706176 + f 6 * 79228162514264337593543950336 + f 7 * 5192296858534827628530496329220096 + f 8 * 340282366920938463463374607431768211456 + f 9 * 22300745198530623141535718272648361505980416 + f 10 * 1461501637330902918203684832716283019655932542976 + f 11 * 95780971304118053647396689196894323976171195136475136 + f 12 * 6277101735386680763835789423207666416102355444464034512896 + f 13 * 411376139330301510538742295639337626245683966408394965837152256 + f 14 * 26959946667150639794667015087019630673637144422540572481103610249216 + f 15 * 1766847064778384329583297500742918515827483896875618958121606201292619776 := by
  simp only [fval, Nat.reducePow]; omega

def mid (f : Nat → Nat) : Nat := f 1 * 65536 + f 2 * 4294967296 + f 3 * 281474976710656 + f 4 * 18446744073709551616 + f 5 * 1208925819614629174706176 + f 6 * 79228162514264337593543950336 + f 7 * 5192296858534827628530496329220096 + f 8 * 340282366920938463463374607431768211456 + f 9 * 22300745198530623141535718272648361505980416 + f 10 * 1461501637330902918203684832716283019655932542976 + f 11 * 95780971304118053647396689196894323976171195136475136 + f 12 * 6277101735386680763835789423207666416102355444464034512896 + f 13 * 411376139330301510538742295639337626245683966408394965837152256 + f 14 * 26959946667150639794667015087019630673637144422540572481103610249216
theorem fval_mid (f : Nat → Nat) : fval f 16 = f 0 + mid f + f 15 * 1766847064778384329583297500742918515827483896875618958121606201292619776 := by
  rw [fval16]; unfold mid; simp only [Nat.add_assoc]
theorem mid_turn (f : Nat → Nat) : mid (turn f) = mid (nf f) := by
  unfold mid
  rw [show turn f 1 = nf f 1 from rfl, show turn f 2 = nf f 2 from rfl, show turn f 3 = nf f 3 from rfl, show turn f 4 = nf f 4 from rfl, show turn f 5 = nf f 5 from rfl, show turn f 6 = nf f 6 from rfl, show turn f 7 = nf f 7 from rfl, show turn f 8 = nf f 8 from rfl, show turn f 9 = nf f 9 from rfl, show turn f 10 = nf f 10 from rfl, show turn f 11 = nf f 11 from rfl, show turn f 12 = nf f 12 from rfl, show turn f 13 = nf f 13 from rfl, show turn f 14 = nf f 14 from rfl]
theorem mid_lt (f : Nat → Nat) (h : ∀ j, j < 16 → f j < 65536) : mid f ≤ 1766847064778384329583297500742918515827483896875618958121606201292619776 - 65536 := by
  have h1 := h 1 (by omega)
  have h2 := h 2 (by omega)
  have h3 := h 3 (by omega)
  have h4 := h 4 (by omega)
  have h5 := h 5 (by omega)
  have h6 := h 6 (by omega)
  have h7 := h 7 (by omega)
  have h8 := h 8 (by omega)
  have h9 := h 9 (by omega)
  have h10 := h 10 (by omega)
  have h11 := h 11 (by omega)
  have h12 := h 12 (by omega)
  have h13 := h 13 (by omega)
  have h14 := h 14 (by omega)
  unfold mid
  omega

theorem turn_val (f : Nat → Nat) : fval f 16 = fval (turn f) 16 + P25 * over f := by
  have h := fval_cr f 16
  rw [fval_mid (nf f)] at h
  simp only [Nat.reducePow] at h
  have t0 : turn f 0 = nf f 0 + 19 * over f := rfl
  have t15 : turn f 15 = nf f 15 % 32768 := rfl
  have ho : over f = 2 * cr f 16 + nf f 15 / 32768 := rfl
  rw [fval_mid (turn f), t0, t15, mid_turn]
  unfold P25
  omega

theorem turn_lo (f : Nat → Nat) : fval (turn f) 16 < 57896044618658097711785492504343953926634992332820282019728792003956564819968 + 19 * over f := by
  have t0 : turn f 0 = nf f 0 + 19 * over f := rfl
  have t15 : turn f 15 = nf f 15 % 32768 := rfl
  rw [fval_mid (turn f), t0, t15, mid_turn]
  have h := mid_lt (nf f) fun j _ => nf_lt f j
  have h0 := nf_lt f 0
  omega

theorem cr_lt {f : Nat → Nat} {M : Nat} (h : ∀ j, j < 16 → f j < 65536 * M) : ∀ n, n ≤ 16 → cr f n ≤ M + M
  | 0, _ => Nat.zero_le _
  | n + 1, hn => by
    have h1 := cr_lt h n (by omega)
    have h2 := h n (by omega)
    rw [cr]; omega

/-- three turns, and carried: below 2^255, the same rest -/
theorem turns_ok (f : Nat → Nat) (h : ∀ j, j < 16 → f j < 140737488355328) : fval (turn (turn (turn f))) 16 < 57896044618658097711785492504343953926634992332820282019728792003956564819968 ∧ fval (turn (turn (turn f))) 16 % P25 = fval f 16 % P25 := by
  have v1 := turn_val f
  have v2 := turn_val (turn f)
  have v3 := turn_val (turn (turn f))
  have l1 := turn_lo f
  have l2 := turn_lo (turn f)
  have l3 := turn_lo (turn (turn f))
  have c1 := cr_lt (M := 2147483648) (fun j hj => by have := h j hj; omega) 16 (Nat.le_refl _)
  have n15 := nf_lt f 15
  have o1 : over f ≤ 8589934594 := by unfold over; omega
  refine ⟨?_, by rw [v1, v2, v3, Nat.add_mul_mod_self_left, Nat.add_mul_mod_self_left, Nat.add_mul_mod_self_left]⟩
  unfold P25 at *
  omega

theorem turn_bd (f : Nat → Nat) (h : ∀ j, j < 16 → f j < 140737488355328) : ∀ j, j < 16 → turn f j < 140737488355328 := by
  intro j hj
  have c1 := cr_lt (M := 2147483648) (fun j hj => by have := h j hj; omega) 16 (Nat.le_refl _)
  have n15 := nf_lt f 15
  have o1 : over f ≤ 8589934594 := by unfold over; omega
  have n0 := nf_lt f 0
  have nj := nf_lt f j
  unfold turn
  split
  · omega
  · split <;> omega

/-- the digits of a number -/
def dig (n j : Nat) : Nat := n / 65536 ^ j % 65536
theorem dig_lt (n j : Nat) : dig n j < 65536 := Nat.mod_lt _ (by omega)
theorem fval_of_dig (n : Nat) : ∀ k, fval (dig n) k = n % 65536 ^ k
  | 0 => by simp [fval, Nat.mod_one]
  | k + 1 => by rw [fval, fval_of_dig n k, Nat.mod_pow_succ, dig, Nat.mul_comm]

/-- what is carried, of a number below 2^256, are its digits -/
theorem nf_dig (f : Nat → Nat) (h : fval f 16 < 115792089237316195423570985008687907853269984665640564039457584007913129639936) : ∀ j, j < 16 → nf f j = dig (fval f 16) j := by
  have hv := fval_cr f 16
  simp only [Nat.reducePow] at hv
  have h0 : cr f 16 = 0 := by omega
  rw [h0, Nat.mul_zero, Nat.add_zero] at hv
  rw [hv]
  exact fval_dig 16 fun j _ => nf_lt f j

def plus19 (f : Nat → Nat) (j : Nat) : Nat := if j = 0 then f 0 + 19 else f j
theorem plus19_val (f : Nat → Nat) : fval (plus19 f) 16 = fval f 16 + 19 := by
  rw [fval16, fval16]
  simp only [plus19]
  simp
  omega
def less15 (f : Nat → Nat) (j : Nat) : Nat := if j = 15 then f 15 - 32768 else f j

/-- the end: p is taken off, if it is there -/
theorem fit_end (v : Nat) (h : v < 57896044618658097711785492504343953926634992332820282019728792003956564819968) (x y : Nat → Nat) (hx : ∀ j, j < 16 → x j = dig v j) (hy : ∀ j, j < 16 → y j = dig (v + 19) j) :
    (y 15 ≥ 32768 → ∀ j, j < 16 → less15 y j = dig (v % P25) j) ∧ (¬ y 15 ≥ 32768 → ∀ j, j < 16 → x j = dig (v % P25) j) := by
  have fy : fval y 16 = v + 19 := by
    rw [fval_congr 16 hy, fval_of_dig]
    exact Nat.mod_eq_of_lt (by simp only [Nat.reducePow]; omega)
  have b15 : y 15 < 65536 := by rw [hy 15 (by omega)]; exact dig_lt _ _
  have hb : ∀ j, j < 16 → y j < 65536 := fun j hj => by rw [hy j hj]; exact dig_lt _ _
  have lo : fval y 15 < 65536 ^ 15 := fval_lt 15 fun j hj => hb j (by omega)
  simp only [Nat.reducePow] at lo
  have e : fval y 16 = fval y 15 + y 15 * 1766847064778384329583297500742918515827483896875618958121606201292619776 := by
    conv => lhs; rw [fval]
  constructor
  · intro hge
    have hl : ∀ j, j < 16 → less15 y j < 65536 := fun j hj => by unfold less15; split <;> (first | omega | exact hb j hj)
    have hf : fval (less15 y) 16 = v + 19 - 57896044618658097711785492504343953926634992332820282019728792003956564819968 := by
      rw [fval, fval_congr (g := y) 15 fun j hj => by unfold less15; rw [if_neg (by omega)]]
      simp only [less15, if_true, Nat.reducePow]
      omega
    have hp : v % P25 = v + 19 - 57896044618658097711785492504343953926634992332820282019728792003956564819968 := by
      have hv : v = (v + 19 - 57896044618658097711785492504343953926634992332820282019728792003956564819968) + P25 * 1 := by unfold P25; omega
      conv => lhs; rw [hv]
      rw [Nat.add_mul_mod_self_left, Nat.mod_eq_of_lt (by unfold P25; omega)]
    intro j hj
    rw [fval_dig 16 hl j hj, hf, hp]; rfl
  · intro hlt
    have hp : v % P25 = v := Nat.mod_eq_of_lt (by unfold P25; omega)
    rw [hp]; exact hx
end Go.Proofs.Ytddgkoheihlbdaa

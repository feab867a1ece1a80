/- Field: limbs of 51 bits: plain numbers. field: the document's sixteen limbs of 16 bits: plain numbers. Regions that draw their order, whose operations leave alone all memory below a bound: one walk in the order of the text. Blocks of memory that are known whole: loads and stores of whole arrays and structs. field: Of, carry, reduced: what they compute. field: the document's fit: what it computes. field: the bytes of a number, bit by bit (plain). field: the limbs of a number, bit by bit; numbers out of bytes (plain). Slices of bytes: how they read as lists; cutting, appending. Strings out of bytes, and bytes out of strings. Slices of bytes: two small words more. -/
import Derived.WalkKit
import Derived.Laws.Rows
import Derived.Deep.MidRow
import Derived.Deep.Quiet
import Derived.Below
import Derived.Deep.Cut
import Derived.OrdersHeld
import Derived.RegionTactic
import Derived.Test.YtpkoniebbkkmjaaRows
import Derived.Handy
import Derived.Lib.Hide
import Derived.WalkLawsBesides
import Derived.Deep.QuietTactic
import Derived.BigQuiet
import Derived.Lib.UnsafeStr
import Derived.Laws.AppendOwnNone
import Derived.Lib.ConvBytes
import Derived.Laws.BytesString
import Derived.Laws.Cells
import Derived.OwnWalk
namespace Go.Proofs.Ytpkoniebbkkmjaa

structure L5 where
  a : Nat
  b : Nat
  c : Nat
  d : Nat
  e : Nat
def P25 : Nat := 57896044618658097711785492504343953926634992332820282019728792003956564819949
def L5.val (x : L5) : Nat := x.a + 2251799813685248 * x.b + 5070602400912917605986812821504 * x.c + 11417981541647679048466287755595961091061972992 * x.d + 25711008708143844408671393477458601640355247900524685364822016 * x.e
/-- each limb below a bound -/
def L5.lt (x : L5) (m : Nat) : Prop := x.a < m ∧ x.b < m ∧ x.c < m ∧ x.d < m ∧ x.e < m
def car (x : Nat) : Nat := x / 2251799813685248
def low (x : Nat) : Nat := x % 2251799813685248
theorem car_low (x : Nat) : x = 2251799813685248 * car x + low x := by unfold car low; omega
theorem low_lt (x : Nat) : low x < 2251799813685248 := by unfold low; omega
/-- the carries -/
def L5.c1 (x : L5) : Nat := car x.a
def L5.c2 (x : L5) : Nat := car (x.b + x.c1)
def L5.c3 (x : L5) : Nat := car (x.c + x.c2)
def L5.c4 (x : L5) : Nat := car (x.d + x.c3)
def L5.c5 (x : L5) : Nat := car (x.e + x.c4)
/-- carried, what is above 2^255 left out -/
def L5.cut (x : L5) : L5 := ⟨low x.a, low (x.b + x.c1), low (x.c + x.c2), low (x.d + x.c3), low (x.e + x.c4)⟩
def L5.cry (x : L5) : L5 := ⟨low x.a + 19 * x.c5, low (x.b + x.c1), low (x.c + x.c2), low (x.d + x.c3), low (x.e + x.c4)⟩

theorem cut_val (x : L5) : x.val = x.cut.val + 57896044618658097711785492504343953926634992332820282019728792003956564819968 * x.c5 := by
  have h1 := car_low x.a
  have h2 := car_low (x.b + x.c1)
  have h3 := car_low (x.c + x.c2)
  have h4 := car_low (x.d + x.c3)
  have h5 := car_low (x.e + x.c4)
  have g1 : car x.a = x.c1 := rfl
  have g2 : car (x.b + x.c1) = x.c2 := rfl
  have g3 : car (x.c + x.c2) = x.c3 := rfl
  have g4 : car (x.d + x.c3) = x.c4 := rfl
  have g5 : car (x.e + x.c4) = x.c5 := rfl
  rw [g1] at h1
  rw [g2] at h2
  rw [g3] at h3
  rw [g4] at h4
  rw [g5] at h5
  simp only [L5.val, L5.cut]
  omega
theorem cut_lt (x : L5) : x.cut.lt 2251799813685248 := ⟨low_lt _, low_lt _, low_lt _, low_lt _, low_lt _⟩
theorem cut_bd (x : L5) (h : x.lt 2251799813685248) : x.val < 57896044618658097711785492504343953926634992332820282019728792003956564819968 := by
  obtain ⟨h1, h2, h3, h4, h5⟩ := h
  simp only [L5.val]; omega
theorem cry_val (x : L5) : x.val = x.cry.val + P25 * x.c5 := by
  have h := cut_val x
  have e : x.cry.val = x.cut.val + 19 * x.c5 := by simp only [L5.val, L5.cry, L5.cut]; omega
  unfold P25; omega
theorem cry_mod (x : L5) : x.cry.val % P25 = x.val % P25 := by
  rw [cry_val x, Nat.add_mul_mod_self_left]
theorem car_bd (x m : Nat) (h : x < 2251799813685248 * m) : car x < m := by unfold car; omega
theorem c5_bd (x : L5) (h : x.lt 9223372036854775808) : x.c1 ≤ 4096 ∧ x.c2 ≤ 4096 ∧ x.c3 ≤ 4096 ∧ x.c4 ≤ 4096 ∧ x.c5 ≤ 4096 := by
  obtain ⟨h1, h2, h3, h4, h5⟩ := h
  have g1 : x.c1 ≤ 4096 := by unfold L5.c1 car; omega
  have g2 : x.c2 ≤ 4096 := by unfold L5.c2 car; omega
  have g3 : x.c3 ≤ 4096 := by unfold L5.c3 car; omega
  have g4 : x.c4 ≤ 4096 := by unfold L5.c4 car; omega
  have g5 : x.c5 ≤ 4096 := by unfold L5.c5 car; omega
  exact ⟨g1, g2, g3, g4, g5⟩
theorem cry_lt (x : L5) (h : x.lt 9223372036854775808) : x.cry.a < 2251799813763072 + 1 ∧ x.cry.b < 2251799813685248 ∧ x.cry.c < 2251799813685248 ∧ x.cry.d < 2251799813685248 ∧ x.cry.e < 2251799813685248 := by
  have := c5_bd x h
  have := low_lt x.a
  refine ⟨?_, low_lt _, low_lt _, low_lt _, low_lt _⟩
  simp only [L5.cry]; omega
/-- three times carried it is below 2^255, each limb below 2^51 -/
theorem cry3 (x : L5) (h : x.lt 9223372036854775808) : x.cry.cry.cry.lt 2251799813685248 ∧ x.cry.cry.cry.val % P25 = x.val % P25 := by
  refine ⟨?_, by rw [cry_mod, cry_mod, cry_mod]⟩
  obtain ⟨a1, a2, a3, a4, a5⟩ := cry_lt x h
  obtain ⟨y, hy⟩ : ∃ y, y = x.cry := ⟨_, rfl⟩
  rw [← hy] at a1 a2 a3 a4 a5 ⊢
  -- the second time
  have e1 : y.c1 ≤ 1 := by unfold L5.c1 car; omega
  have e2 : y.c2 ≤ 1 := by unfold L5.c2 car; omega
  have e3 : y.c3 ≤ 1 := by unfold L5.c3 car; omega
  have e4 : y.c4 ≤ 1 := by unfold L5.c4 car; omega
  have e5 : y.c5 ≤ 1 := by unfold L5.c5 car; omega
  have l1 := low_lt y.a
  obtain ⟨z, hz⟩ : ∃ z, z = y.cry := ⟨_, rfl⟩
  have z1 : z.a < 2251799813685248 + 19 := by rw [hz]; simp only [L5.cry]; omega
  have z2 : z.b < 2251799813685248 := by rw [hz]; exact low_lt _
  have z3 : z.c < 2251799813685248 := by rw [hz]; exact low_lt _
  have z4 : z.d < 2251799813685248 := by rw [hz]; exact low_lt _
  have z5 : z.e < 2251799813685248 := by rw [hz]; exact low_lt _
  rw [← hz]
  refine ⟨?_, low_lt _, low_lt _, low_lt _, low_lt _⟩
  -- the third time
  by_cases hc : z.c5 = 0
  · simp only [L5.cry, hc]; have := low_lt z.a; omega
  · have f5 : z.c5 ≤ 1 := by
      have g1 : z.c1 ≤ 1 := by unfold L5.c1 car; omega
      have g2 : z.c2 ≤ 1 := by unfold L5.c2 car; omega
      have g3 : z.c3 ≤ 1 := by unfold L5.c3 car; omega
      have g4 : z.c4 ≤ 1 := by unfold L5.c4 car; omega
      unfold L5.c5 car; omega
    have k4 : z.c4 ≠ 0 := by intro h0; apply hc; unfold L5.c5 car; rw [h0]; omega
    have k3 : z.c3 ≠ 0 := by intro h0; apply k4; unfold L5.c4 car; rw [h0]; omega
    have k2 : z.c2 ≠ 0 := by intro h0; apply k3; unfold L5.c3 car; rw [h0]; omega
    have k1 : z.c1 ≠ 0 := by intro h0; apply k2; unfold L5.c2 car; rw [h0]; omega
    have hz1 : 2251799813685248 ≤ z.a := by
      unfold L5.c1 car at k1; omega
    simp only [L5.cry]
    have : low z.a < 19 := by unfold low; omega
    omega
/-- with 19 put to the first limb -/
def L5.more (x : L5) : L5 := ⟨x.a + 19, x.b, x.c, x.d, x.e⟩
def L5.red (x : L5) : L5 := if 0 < x.cry.cry.cry.more.c5 then x.cry.cry.cry.more.cut else x.cry.cry.cry
theorem red_ok (x : L5) (h : x.lt 9223372036854775808) : x.red.lt 2251799813685248 ∧ x.red.val = x.val % P25 := by
  obtain ⟨h1, h2⟩ := cry3 x h
  unfold L5.red
  obtain ⟨y, hy⟩ : ∃ y, y = x.cry.cry.cry := ⟨_, rfl⟩
  rw [← hy] at h1 h2 ⊢
  have hb := cut_bd y h1
  have hm : y.more.val = y.val + 19 := by simp only [L5.val, L5.more]; omega
  have hc := cut_val y.more
  have hl := cut_lt y.more
  have hlb := cut_bd y.more.cut hl
  rw [hm] at hc
  by_cases h0 : 0 < y.more.c5
  · rw [if_pos h0]
    refine ⟨hl, ?_⟩
    rw [← h2]
    have c1 : y.more.c5 = 1 := by omega
    rw [c1] at hc
    have : y.val = y.more.cut.val + P25 * 1 := by unfold P25; omega
    rw [this, Nat.add_mul_mod_self_left, Nat.mod_eq_of_lt (by unfold P25; omega)]
  · rw [if_neg h0]
    refine ⟨h1, ?_⟩
    rw [← h2]
    have c0 : y.more.c5 = 0 := by omega
    rw [c0] at hc
    rw [Nat.mod_eq_of_lt (by unfold P25; omega)]
end Go.Proofs.Ytpkoniebbkkmjaa
namespace Go.Proofs.Ytpkoniebbkkmjaa

def fval (f : Nat → Nat) : Nat → Nat | 0 => 0 | n + 1 => fval f n + f n * 65536 ^ n
/-- the carry into limb i -/
def cr (f : Nat → Nat) : Nat → Nat | 0 => 0 | i + 1 => (f i + cr f i) / 65536
def nf (f : Nat → Nat) (j : Nat) : Nat := (f j + cr f j) % 65536
/-- carried up to limb i -/
def pf (f : Nat → Nat) (i j : Nat) : Nat := if j < i then nf f j else f j
def upd (f : Nat → Nat) (i v : Nat) (j : Nat) : Nat := if j = i then v else f j

theorem pf_zero (f : Nat → Nat) : pf f 0 = f := by funext j; simp [pf]
theorem pf_step (f : Nat → Nat) (i : Nat) : upd (pf f i) i (nf f i) = pf f (i + 1) := by
  funext j
  unfold upd pf
  by_cases h : j = i
  · subst h; simp
  · by_cases h2 : j < i
    · rw [if_neg h, if_pos h2, if_pos (by omega)]
    · rw [if_neg h, if_neg h2, if_neg (by omega)]
theorem pf_here (f : Nat → Nat) (i : Nat) : pf f i i = f i := by simp [pf]
theorem nf_lt (f : Nat → Nat) (j : Nat) : nf f j < 65536 := Nat.mod_lt _ (by omega)
theorem fval_cr (f : Nat → Nat) : ∀ n, fval f n = fval (nf f) n + 65536 ^ n * cr f n
  | 0 => by simp [fval, cr]
  | n + 1 => by
    have h := Nat.div_add_mod (f n + cr f n) 65536
    have e : fval f (n + 1) = fval (nf f) n + 65536 ^ n * (f n + cr f n) := by
      rw [fval, fval_cr f n, Nat.mul_add, Nat.mul_comm (f n)]; omega
    rw [e, fval]
    show _ = fval (nf f) n + (f n + cr f n) % 65536 * 65536 ^ n + 65536 ^ (n + 1) * ((f n + cr f n) / 65536)
    conv => lhs; rw [← h]
    rw [Nat.mul_add, Nat.pow_succ, Nat.mul_comm ((f n + cr f n) % 65536), ← Nat.mul_assoc]
    omega
theorem fval_congr {f g : Nat → Nat} : ∀ n, (∀ j, j < n → f j = g j) → fval f n = fval g n
  | 0, _ => rfl
  | n + 1, h => by rw [fval, fval, fval_congr n fun j hj => h j (by omega), h n (by omega)]
theorem fval_lt {f : Nat → Nat} : ∀ n, (∀ j, j < n → f j < 65536) → fval f n < 65536 ^ n
  | 0, _ => by simp [fval]
  | n + 1, h => by
    have h1 := fval_lt n fun j hj => h j (by omega)
    have h2 : f n * 65536 ^ n ≤ 65535 * 65536 ^ n := Nat.mul_le_mul_right _ (by have := h n (by omega); omega)
    rw [fval, Nat.pow_succ]; omega
/-- the digits are the number's -/
theorem fval_dig {f : Nat → Nat} : ∀ n, (∀ j, j < n → f j < 65536) → ∀ j, j < n → f j = fval f n / 65536 ^ j % 65536
  | 0, _, j, hj => by omega
  | n + 1, h, j, hj => by
    have h1 := fval_lt n fun j hj => h j (by omega)
    rw [fval]
    by_cases e : j = n
    · subst e
      rw [Nat.add_mul_div_right _ _ (Nat.pow_pos (by omega)), Nat.div_eq_of_lt h1, Nat.zero_add, Nat.mod_eq_of_lt (h j (by omega))]
    · have hlt : j < n := by omega
      rw [fval_dig n (fun j hj => h j (by omega)) j hlt]
      obtain ⟨k, rfl⟩ : ∃ k, n = j + (k + 1) := ⟨n - j - 1, by omega⟩
      rw [Nat.pow_add, Nat.pow_succ 65536 k]
      rw [show f (j + (k + 1)) * (65536 ^ j * (65536 ^ k * 65536)) = (f (j + (k + 1)) * 65536 ^ k * 65536) * 65536 ^ j by
        simp only [Nat.mul_comm, Nat.mul_left_comm]]
      rw [Nat.add_mul_div_right _ _ (Nat.pow_pos (by omega)), Nat.add_mul_mod_self_right]

def over (f : Nat → Nat) : Nat := 2 * cr f 16 + nf f 15 / 32768
/-- once round: carried, and folded -/
def turn (f : Nat → Nat) (j : Nat) : Nat := if j = 0 then nf f 0 + 19 * over f else if j = 15 then nf f 15 % 32768 else nf f j

theorem fval16 (f : Nat → Nat) : fval f 16 = f 0 + f 1 * 65536 + f 2 * 4294967296 + f 3 * 281474976710656 + f 4 * 18446744073709551616 + f 5 * 1208925819614629174706176 + f 6 * 79228162514264337593543950336 + f 7 * 5192296858534827628530496329220096 + f 8 * 340282366920938463463374607431768211456 + f 9 * 22300745198530623141535718272648361505980416 + f 10 * 1461501637330902918203684832716283019655932542976 + f 11 * 95780971304118053647396689196894323976171195136475136 + f 12 * 6277101735386680763835789423207666416102355444464034512896 + f 13 * 411376139330301510538742295639337626245683966408394965837152256 + f 14 * 26959946667150639794667015087019630673637144422540572481103610249216 + f 15 * 1766847064778384329583297500742918515827483896875618958121606201292619776 := by
  simp only [fval, Nat.reducePow]; omega

def mid (f : Nat → Nat) : Nat := f 1 * 65536 + f 2 * 4294967296 + f 3 * 281474976710656 + f 4 * 18446744073709551616 + f 5 * 1208925819614629174706176 + f 6 * 79228162514264337593543950336 + f 7 * 5192296858534827628530496329220096 + f 8 * 340282366920938463463374607431768211456 + f 9 * 22300745198530623141535718272648361505980416 + f 10 * 1461501637330902918203684832716283019655932542976 + f 11 * 95780971304118053647396689196894323976171195136475136 + f 12 * 6277101735386680763835789423207666416102355444464034512896 + f 13 * 411376139330301510538742295639337626245683966408394965837152256 + f 14 * 26959946667150639794667015087019630673637144422540572481103610249216
theorem fval_mid (f : Nat → Nat) : fval f 16 = f 0 + mid f + f 15 * 1766847064778384329583297500742918515827483896875618958121606201292619776 := by
  rw [fval16]; unfold mid; simp only [Nat.add_assoc]
theorem mid_turn (f : Nat → Nat) : mid (turn f) = mid (nf f) := by
  unfold mid
  rw [show turn f 1 = nf f 1 from rfl, show turn f 2 = nf f 2 from rfl, show turn f 3 = nf f 3 from rfl, show turn f 4 = nf f 4 from rfl, show turn f 5 = nf f 5 from rfl, show turn f 6 = nf f 6 from rfl, show turn f 7 = nf f 7 from rfl, show turn f 8 = nf f 8 from rfl, show turn f 9 = nf f 9 from rfl, show turn f 10 = nf f 10 from rfl, show turn f 11 = nf f 11 from rfl, show turn f 12 = nf f 12 from rfl, show turn f 13 = nf f 13 from rfl, show turn f 14 = nf f 14 from rfl]
theorem mid_lt (f : Nat → Nat) (h : ∀ j, j < 16 → f j < 65536) : mid f ≤ 1766847064778384329583297500742918515827483896875618958121606201292619776 - 65536 := by
  have h1 := h 1 (by omega)
  have h2 := h 2 (by omega)
  have h3 := h 3 (by omega)
  have h4 := h 4 (by omega)
  have h5 := h 5 (by omega)
  have h6 := h 6 (by omega)
  have h7 := h 7 (by omega)
  have h8 := h 8 (by omega)
  have h9 := h 9 (by omega)
  have h10 := h 10 (by omega)
  have h11 := h 11 (by omega)
  have h12 := h 12 (by omega)
  have h13 := h 13 (by omega)
  have h14 := h 14 (by omega)
  unfold mid
  omega

theorem turn_val (f : Nat → Nat) : fval f 16 = fval (turn f) 16 + P25 * over f := by
  have h := fval_cr f 16
  rw [fval_mid (nf f)] at h
  simp only [Nat.reducePow] at h
  have t0 : turn f 0 = nf f 0 + 19 * over f := rfl
  have t15 : turn f 15 = nf f 15 % 32768 := rfl
  have ho : over f = 2 * cr f 16 + nf f 15 / 32768 := rfl
  rw [fval_mid (turn f), t0, t15, mid_turn]
  unfold P25
  omega

theorem turn_lo (f : Nat → Nat) : fval (turn f) 16 < 57896044618658097711785492504343953926634992332820282019728792003956564819968 + 19 * over f := by
  have t0 : turn f 0 = nf f 0 + 19 * over f := rfl
  have t15 : turn f 15 = nf f 15 % 32768 := rfl
  rw [fval_mid (turn f), t0, t15, mid_turn]
  have h := mid_lt (nf f) fun j _ => nf_lt f j
  have h0 := nf_lt f 0
  omega

theorem cr_lt {f : Nat → Nat} {M : Nat} (h : ∀ j, j < 16 → f j < 65536 * M) : ∀ n, n ≤ 16 → cr f n ≤ M + M
  | 0, _ => Nat.zero_le _
  | n + 1, hn => by
    have h1 := cr_lt h n (by omega)
    have h2 := h n (by omega)
    rw [cr]; omega

/-- three turns, and carried: below 2^255, the same rest -/
theorem turns_ok (f : Nat → Nat) (h : ∀ j, j < 16 → f j < 140737488355328) : fval (turn (turn (turn f))) 16 < 57896044618658097711785492504343953926634992332820282019728792003956564819968 ∧ fval (turn (turn (turn f))) 16 % P25 = fval f 16 % P25 := by
  have v1 := turn_val f
  have v2 := turn_val (turn f)
  have v3 := turn_val (turn (turn f))
  have l1 := turn_lo f
  have l2 := turn_lo (turn f)
  have l3 := turn_lo (turn (turn f))
  have c1 := cr_lt (M := 2147483648) (fun j hj => by have := h j hj; omega) 16 (Nat.le_refl _)
  have n15 := nf_lt f 15
  have o1 : over f ≤ 8589934594 := by unfold over; omega
  refine ⟨?_, by rw [v1, v2, v3, Nat.add_mul_mod_self_left, Nat.add_mul_mod_self_left, Nat.add_mul_mod_self_left]⟩
  unfold P25 at *
  omega

theorem turn_bd (f : Nat → Nat) (h : ∀ j, j < 16 → f j < 140737488355328) : ∀ j, j < 16 → turn f j < 140737488355328 := by
  intro j hj
  have c1 := cr_lt (M := 2147483648) (fun j hj => by have := h j hj; omega) 16 (Nat.le_refl _)
  have n15 := nf_lt f 15
  have o1 : over f ≤ 8589934594 := by unfold over; omega
  have n0 := nf_lt f 0
  have nj := nf_lt f j
  unfold turn
  split
  · omega
  · split <;> omega

/-- the digits of a number -/
def dig (n j : Nat) : Nat := n / 65536 ^ j % 65536
theorem dig_lt (n j : Nat) : dig n j < 65536 := Nat.mod_lt _ (by omega)
theorem fval_of_dig (n : Nat) : ∀ k, fval (dig n) k = n % 65536 ^ k
  | 0 => by simp [fval, Nat.mod_one]
  | k + 1 => by rw [fval, fval_of_dig n k, Nat.mod_pow_succ, dig, Nat.mul_comm]

/-- what is carried, of a number below 2^256, are its digits -/
theorem nf_dig (f : Nat → Nat) (h : fval f 16 < 115792089237316195423570985008687907853269984665640564039457584007913129639936) : ∀ j, j < 16 → nf f j = dig (fval f 16) j := by
  have hv := fval_cr f 16
  simp only [Nat.reducePow] at hv
  have h0 : cr f 16 = 0 := by omega
  rw [h0, Nat.mul_zero, Nat.add_zero] at hv
  rw [hv]
  exact fval_dig 16 fun j _ => nf_lt f j

def plus19 (f : Nat → Nat) (j : Nat) : Nat := if j = 0 then f 0 + 19 else f j
theorem plus19_val (f : Nat → Nat) : fval (plus19 f) 16 = fval f 16 + 19 := by
  rw [fval16, fval16]
  simp only [plus19]
  simp
  omega
def less15 (f : Nat → Nat) (j : Nat) : Nat := if j = 15 then f 15 - 32768 else f j

/-- the end: p is taken off, if it is there -/
theorem fit_end (v : Nat) (h : v < 57896044618658097711785492504343953926634992332820282019728792003956564819968) (x y : Nat → Nat) (hx : ∀ j, j < 16 → x j = dig v j) (hy : ∀ j, j < 16 → y j = dig (v + 19) j) :
    (y 15 ≥ 32768 → ∀ j, j < 16 → less15 y j = dig (v % P25) j) ∧ (¬ y 15 ≥ 32768 → ∀ j, j < 16 → x j = dig (v % P25) j) := by
  have fy : fval y 16 = v + 19 := by
    rw [fval_congr 16 hy, fval_of_dig]
    exact Nat.mod_eq_of_lt (by simp only [Nat.reducePow]; omega)
  have b15 : y 15 < 65536 := by rw [hy 15 (by omega)]; exact dig_lt _ _
  have hb : ∀ j, j < 16 → y j < 65536 := fun j hj => by rw [hy j hj]; exact dig_lt _ _
  have lo : fval y 15 < 65536 ^ 15 := fval_lt 15 fun j hj => hb j (by omega)
  simp only [Nat.reducePow] at lo
  have e : fval y 16 = fval y 15 + y 15 * 1766847064778384329583297500742918515827483896875618958121606201292619776 := by
    conv => lhs; rw [fval]
  constructor
  · intro hge
    have hl : ∀ j, j < 16 → less15 y j < 65536 := fun j hj => by unfold less15; split <;> (first | omega | exact hb j hj)
    have hf : fval (less15 y) 16 = v + 19 - 57896044618658097711785492504343953926634992332820282019728792003956564819968 := by
      rw [fval, fval_congr (g := y) 15 fun j hj => by unfold less15; rw [if_neg (by omega)]]
      simp only [less15, if_true, Nat.reducePow]
      omega
    have hp : v % P25 = v + 19 - 57896044618658097711785492504343953926634992332820282019728792003956564819968 := by
      have hv : v = (v + 19 - 57896044618658097711785492504343953926634992332820282019728792003956564819968) + P25 * 1 := by unfold P25; omega
      conv => lhs; rw [hv]
      rw [Nat.add_mul_mod_self_left, Nat.mod_eq_of_lt (by unfold P25; omega)]
    intro j hj
    rw [fval_dig 16 hl j hj, hf, hp]; rfl
  · intro hlt
    have hp : v % P25 = v := Nat.mod_eq_of_lt (by unfold P25; omega)
    rw [hp]; exact hx
end Go.Proofs.Ytpkoniebbkkmjaa
namespace Go.Proofs.Ytpkoniebbkkmjaa
open Go.RowKit

variable {P : Program} {ops : Array Oper} {W : World} {B : Nat}

theorem wp_region_made {id : Nat} {Q : Exit → Act → World → Prop} {a : Act} {w : World} {l : List Oper} (B : Nat) (W : World) (hm : P.follows .mixedOrders = true) (hB : Region.lexB .any l.toArray = true) (h0 : Below B W w)
    (h : wpQuiet P l.toArray (fun w' => Below B W w') (fun a' => ∀ w', Below B W w' → Q .normal a' w') l a) : (Code.region id l.toArray true).wp P Q a w :=
  wp_region_quiet (C := fun w' => Below B W w') hm hB h0.drew (by simpa using h)

theorem wpQ_plain {C : World → Prop} {Q : Act → Prop} {a : Act} {o : Oper} {rest : List Oper} (hgd : Region.wanted o (yielded ops a.tmps) = true) (h : o.quiet P a C (wpQuiet P ops C Q rest)) : wpQuiet P ops C Q (o :: rest) a := by
  unfold wpQuiet
  rw [if_pos hgd]
  exact h

/-- an operation whose run is known in each world of the class -/
theorem wpQ_run {C : World → Prop} {Q : Act → Prop} {a : Act} {o : Oper} {rest : List Oper} (hgd : Region.wanted o (yielded ops a.tmps) = true) (v : Value) (hr : ∀ w, C w → (execOp a.eval o).run P w = .ok (.value v) w)
    (h : wpQuiet P ops C Q rest (a.put o.dst v)) : wpQuiet P ops C Q (o :: rest) a :=
  wpQ_plain hgd ⟨v, fun w hw => by unfold Oper.quietAt; rw [hr w hw]; exact ⟨rfl, rfl⟩, h⟩

/-- a whole block is loaded -/
theorem wpQ_load_row {Q : Act → Prop} {a : Act} {o : Oper} {rest : List Oper} (hgd : Region.wanted o (yielded ops a.tmps) = true) (ty : TypeId) (x : Operand) (ho : o.op = .load ty x)
    (g : Nat) (hx : a.eval x = .pointer (some ⟨g, 0, none⟩)) (t : TypeId) (cs : Array Value) (fr : Nat × Nat) (d : TypeDesc) (hg : W.heap[g]? = some (.cells cs t fr)) (hgB : g < B)
    (hu : P.underlying ty = some d) (hd : (match d with | .struct _ | .array _ _ => true | _ => false) = true) (hi : (P.info? ty).map (·.size) = some cs.size)
    (h : wpQuiet P ops (fun w' => Below B W w') Q rest (a.put o.dst (.agg cs))) : wpQuiet P ops (fun w' => Below B W w') Q (o :: rest) a :=
  wpQ_run hgd _ (fun w hw => by
    unfold execOp
    simp only [ho, hx, Instr.loadAt, Instr.sureAddr, Sem.run_bind, Sem.run_pure, Result.andThen_ok, run_loadVar_row w g t ty cs fr d ((hw.block g hgB).trans hg) hu hd hi]) h

/-- some cells in the midst of a block are loaded -/
theorem wpQ_load_mid {Q : Act → Prop} {a : Act} {o : Oper} {rest : List Oper} (hgd : Region.wanted o (yielded ops a.tmps) = true) (ty : TypeId) (x : Operand) (ho : o.op = .load ty x)
    (b k : Nat) (hx : a.eval x = .pointer (some ⟨b, k, none⟩)) (cs : List Value) (d : TypeDesc) (hS : W.rangeAt b k cs) (hb : b < B)
    (hu : P.underlying ty = some d) (hd : d.isRow = true) (hi : (P.info? ty).map (·.size) = some cs.length)
    (h : wpQuiet P ops (fun w' => Below B W w') Q rest (a.put o.dst (.agg cs.toArray))) : wpQuiet P ops (fun w' => Below B W w') Q (o :: rest) a :=
  wpQ_run hgd _ (fun w hw => by
    unfold execOp
    simp only [ho, hx, Instr.loadAt, Instr.sureAddr, Sem.run_bind, Sem.run_pure, Result.andThen_ok, run_loadVar_mid w b k ty cs d (fun j v hv => (hw.cell (p := ⟨b, k + j, none⟩) hb).trans (hS j v hv)) hu hd hi]) h

/-- a call by its contract -/
theorem wpQ_call {Q : Act → Prop} {a : Act} {o : Oper} {rest : List Oper} (hgd : Region.wanted o (yielded ops a.tmps) = true) (f : FuncId) (args : Array Value) (hr : ∀ w, (execOp a.eval o).run P w = .ok (.enter f args) w) (v : Value) (hB : B ≤ W.heap.size)
    (hc : ∀ w, Calls P f args w fun e w' => e = .returned v ∧ Below w.heap.size w w')
    (h : wpQuiet P ops (fun w' => Below B W w') Q rest (a.put o.dst v)) : wpQuiet P ops (fun w' => Below B W w') Q (o :: rest) a :=
  wpQ_plain hgd ⟨v, fun w hw => by
    unfold Oper.quietAt
    rw [hr w]
    exact ⟨rfl, (hc w).mono fun e w'' ⟨he, hb⟩ => ⟨he, hw.trans (hb.mono (by have := hw.size; omega))⟩⟩, h⟩

theorem wpQ_move {C : World → Prop} {Q : Act → Prop} {a : Act} {o : Oper} {rest : List Oper} (hgd : Region.wanted o (yielded ops a.tmps) = true) (x : Operand) (ho : o.op = .assign x ∨ o.op = .move x)
    (h : wpQuiet P ops C Q rest (a.put o.dst (a.eval x))) : wpQuiet P ops C Q (o :: rest) a :=
  wpQ_run hgd _ (fun w _ => by unfold execOp; rcases ho with ho | ho <;> simp only [ho] <;> rfl) h

end Go.Proofs.Ytpkoniebbkkmjaa
namespace Go.Proofs.Ytpkoniebbkkmjaa
open Go.RowKit

/-- a variable of an array's or a struct's type, in a block of its own -/
def Box (w : World) (g : Nat) (T : TypeId) (cs : Array Value) : Prop := w.heap[g]? = some (.cells cs T (0, 0))

theorem Box.lt {w : World} {g : Nat} {T : TypeId} {cs : Array Value} (h : Box w g T cs) : g < w.heap.size := by
  rcases Nat.lt_or_ge g w.heap.size with h' | h'
  · exact h'
  · unfold Box at h; simp [Array.getElem?_eq_none h'] at h
theorem Box.below {w w' : World} {g B : Nat} {T : TypeId} {cs : Array Value} (h : Box w g T cs) (hb : Below B w w') (hg : g < B) : Box w' g T cs := (hb.block g hg).trans h
theorem Box.after {w w' : World} {g : Nat} {T : TypeId} {cs : Array Value} (h : Box w g T cs) (hb : Below w.heap.size w w') : Box w' g T cs := h.below hb h.lt
theorem Box.new (w : World) (T : TypeId) (cs : Array Value) : Box (w.alloc (.cells cs T)) w.heap.size T cs := heap_alloc_new _ _
theorem Box.alloc {w : World} {g : Nat} {T : TypeId} {cs : Array Value} (h : Box w g T cs) (o : Obj) : Box (w.alloc o) g T cs := (heap_alloc_old _ _ h.lt).trans h
theorem Box.drew {w : World} {g : Nat} {T : TypeId} {cs : Array Value} (h : Box w g T cs) : Box w.drew g T cs := h
theorem Box.set {w : World} {g : Nat} {T : TypeId} {cs : Array Value} (h : Box w g T cs) (i : Nat) (v : Value) : Box (w.setCell ⟨g, i, none⟩ v) g T (cs.setIfInBounds i v) := heap_setCell_same _ _ _ _ _ _ h
theorem Box.far {w : World} {g : Nat} {T : TypeId} {cs : Array Value} (h : Box w g T cs) (a : Addr) (v : Value) (hne : g ≠ a.block) : Box (w.setCell a v) g T cs := (heap_setCell_other _ _ _ _ hne).trans h
theorem Box.cell {w : World} {g : Nat} {T : TypeId} {cs : Array Value} (h : Box w g T cs) (j : Nat) {v : Value} (hv : cs[j]? = some v) : w.cell? ⟨g, j, none⟩ = some v := (cell_of_row w g j cs T _ h).trans hv
theorem Box.frozen {w : World} {g : Nat} {T : TypeId} {cs : Array Value} (h : Box w g T cs) (j : Nat) : w.frozen? ⟨g, j, none⟩ = false := frozen_of_row w g j cs T h

/-- what is left of a world behind a store into block g -/
structure Stored (w w' : World) (g : Nat) : Prop where
  other : ∀ k, k ≠ g → w'.heap[k]? = w.heap[k]?
  size : w'.heap.size = w.heap.size
  below : ∀ (B : Nat) (W : World), B ≤ g → Below B W w → Below B W w'

theorem Stored.refl (w : World) (g : Nat) : Stored w w g := ⟨fun _ _ => rfl, rfl, fun _ _ _ h => h⟩
theorem Stored.setCell {w w' : World} {g : Nat} (h : Stored w w' g) (i : Nat) (v : Value) : Stored w (w'.setCell ⟨g, i, none⟩ v) g :=
  ⟨fun k hk => (heap_setCell_other _ _ _ _ hk).trans (h.other k hk), by simp [h.size], fun B W hB hb => (h.below B W hB hb).setCell hB _⟩
theorem Stored.box {w w' : World} {g k : Nat} {T : TypeId} {cs : Array Value} (h : Stored w w' g) (hb : Box w k T cs) (hk : k ≠ g) : Box w' k T cs := (h.other k hk).trans hb

theorem setCells_box (g : Nat) (T : TypeId) : ∀ (vs : List Value) (o : Nat) (w : World) (pre : List Value) (post : List Value), pre.length = o → post.length = vs.length → Box w g T (pre ++ post).toArray →
    Box (w.setCells g o vs) g T (pre ++ vs).toArray ∧ Stored w (w.setCells g o vs) g
  | [], o, w, pre, post, _, hl, h => by
    have : post = [] := List.eq_nil_of_length_eq_zero hl
    subst this
    exact ⟨h, Stored.refl _ _⟩
  | v :: vs, o, w, pre, [], _, hl, _ => by cases hl
  | v :: vs, o, w, pre, p :: post, hp, hl, h => by
    have h1 := h.set o v
    have e : (pre ++ p :: post).toArray.setIfInBounds o v = ((pre ++ [v]) ++ post).toArray := by
      subst hp
      simp
    rw [e] at h1
    have h2 := setCells_box g T vs (o + 1) (w.setCell ⟨g, o, none⟩ v) (pre ++ [v]) post (by simp [hp]) (by simpa using hl) h1
    refine ⟨by simpa [World.setCells] using h2.1, ?_⟩
    have h3 := (Stored.refl w g).setCell o v
    exact ⟨fun k hk => (h2.2.other k hk).trans (h3.other k hk), h2.2.size.trans h3.size, fun B W hB hb => h2.2.below B W hB (h3.below B W hB hb)⟩

theorem box_there {w : World} {g : Nat} {T : TypeId} {cs : Array Value} (h : Box w g T cs) : w.there g 0 cs.size := fun j hj => by
  rw [Nat.zero_add]
  exact ⟨by rw [cell_of_row w g j cs T _ h]; simp [hj], h.frozen j⟩

variable {P : Program} {ops : Array Oper}

theorem run_load_box {o : Oper} {a : Act} {w : World} {ty : TypeId} {x : Operand} (ho : o.op = .load ty x)
    {g : Nat} {T : TypeId} {cs : Array Value} (hg : Box w g T cs) (hx : a.eval x = .pointer (some ⟨g, 0, none⟩)) {d : TypeDesc}
    (hu : P.underlying ty = some d) (hd : (match d with | .struct _ | .array _ _ => true | _ => false) = true) (hi : (P.info? ty).map (·.size) = some cs.size) : (execOp a.eval o).run P w = .ok (.value (.agg cs)) w := by
  unfold execOp
  simp only [ho, hx, Instr.loadAt, Instr.sureAddr, Sem.run_bind, Sem.run_pure, Result.andThen_ok, run_loadVar_row w g T ty cs (0, 0) d hg hu hd hi]

theorem wpList_want {rest : List Oper} {o : Oper} {a : Act} {w : World} {Q : Exit → Act → World → Prop} (hgd : Region.wanted o (yielded ops a.tmps) = true)
    (h : ∀ K : Act → World → Prop, (∀ a w, wpList P ops Q rest a w → K a w) → o.wp P a w K Q) : wpList P ops Q (o :: rest) a w :=
  wpList_step fun K hK => by rw [if_pos hgd]; exact h K hK

theorem wpList_load_box {rest : List Oper} {o : Oper} {a : Act} {w : World} {Q : Exit → Act → World → Prop} (hgd : Region.wanted o (yielded ops a.tmps) = true) (ty : TypeId) (x : Operand) (ho : o.op = .load ty x)
    {g : Nat} {T : TypeId} {cs : Array Value} (hg : Box w g T cs) (hx : a.eval x = .pointer (some ⟨g, 0, none⟩)) {d : TypeDesc}
    (hu : P.underlying ty = some d) (hd : (match d with | .struct _ | .array _ _ => true | _ => false) = true) (hi : (P.info? ty).map (·.size) = some cs.size)
    (h : wpList P ops Q rest (a.put o.dst (.agg cs)) w) : wpList P ops Q (o :: rest) a w :=
  wpList_want hgd fun _ hK => wp_load_row ty x ho g hx T cs (0, 0) d hg hu hd hi (hK _ _ h)

theorem wpList_store_box {rest : List Oper} {o : Oper} {a : Act} {w : World} {Q : Exit → Act → World → Prop} (hgd : Region.wanted o (yielded ops a.tmps) = true) (ty : TypeId) (x y : Operand) (ho : o.op = .store ty x y)
    {g : Nat} {T : TypeId} {old cells : Array Value} (hg : Box w g T old) (hx : a.eval x = .pointer (some ⟨g, 0, none⟩)) (hy : a.eval y = .agg cells) (hsz : old.size = cells.size)
    (hi : (P.info? ty).map (·.size) = some cells.size) (h1 : cells.all (·.oneCell') = true)
    (h : ∀ w', Box w' g T cells → Stored w w' g → wpList P ops Q rest (a.put o.dst undef) w') : wpList P ops Q (o :: rest) a w := by
  have hs := setCells_box g T cells.toList 0 w [] old.toList rfl (by simpa using hsz) (by simpa using hg)
  exact wpList_want hgd fun _ hK => wp_store_mid ty x y ho g 0 cells hx hy (hsz ▸ box_there hg) hi h1 (hK _ _ (h _ (by simpa using hs.1) hs.2))

theorem wp_store_box {o : Oper} {a : Act} {w : World} {K : Act → World → Prop} {Q : Exit → Act → World → Prop} (ty : TypeId) (x y : Operand) (ho : o.op = .store ty x y)
    {g : Nat} {T : TypeId} {old cells : Array Value} (hg : Box w g T old) (hx : a.eval x = .pointer (some ⟨g, 0, none⟩)) (hy : a.eval y = .agg cells) (hsz : old.size = cells.size)
    (hi : (P.info? ty).map (·.size) = some cells.size) (h1 : cells.all (·.oneCell') = true)
    (h : ∀ w', Box w' g T cells → Stored w w' g → K (a.put o.dst undef) w') : o.wp P a w K Q := by
  have hs := setCells_box g T cells.toList 0 w [] old.toList rfl (by simpa using hsz) (by simpa using hg)
  exact wp_store_mid ty x y ho g 0 cells hx hy (hsz ▸ box_there hg) hi h1 (h _ (by simpa using hs.1) hs.2)

theorem op_of_drop {i : Nat} {oi : Oper} {tl : List Oper} (hi : ops.toList.drop i = oi :: tl) : ops[i]? = some oi := by
  have h : (ops.toList.drop i)[0]? = some oi := by rw [hi]; rfl
  simpa using h

/-- in a region that draws its order: an operation that yields its value in each world of the class, taken first -/
theorem wpH_take {S : World → Prop} {Q : Exit → Act → World → Prop} {md : Region.Mode} (i : Nat) {oi : Oper} {tl : List Oper} {fuel : Nat} {listed : Array Bool} {a : Act} {w : World} (hi : ops.toList.drop i = oi :: tl)
    (hs : Region.noSelect ops = true) (hf : Region.free md ops listed i = true) (hr : (Region.ready md ops listed).contains i = true) (hgd : Region.wanted oi (yielded ops a.tmps) = true)
    (hQ : ∀ c a w v, Q (.panic c) (a.put oi.dst v) w → Q (.panic c) a w) (v : Value) (hy : ∀ w, S w → (execOp a.eval oi).run P w = .ok (.value v) w) (hS : S w)
    (h : wpAnyH P md ops Q S fuel (listed.setIfInBounds i true) (a.put oi.dst v) w) : wpAnyH P md ops Q S (fuel + 1) listed a w :=
  wpAnyH_take (op_of_drop hi) hs hf hr (fun c a w => hQ c a w v) (.inl ⟨hgd, hy⟩) hS h

/-- .. one whose guard shuts it out -/
theorem wpH_skip {S : World → Prop} {Q : Exit → Act → World → Prop} {md : Region.Mode} (i : Nat) {oi : Oper} {tl : List Oper} {fuel : Nat} {listed : Array Bool} {a : Act} {w : World} (hi : ops.toList.drop i = oi :: tl)
    (hs : Region.noSelect ops = true) (hf : Region.free md ops listed i = true) (hr : (Region.ready md ops listed).contains i = true) (hgd : Region.wanted oi (yielded ops a.tmps) = false)
    (hQ : ∀ c a w v, Q (.panic c) (a.put oi.dst v) w → Q (.panic c) a w) (hS : S w)
    (h : wpAnyH P md ops Q S fuel (listed.setIfInBounds i true) (a.put oi.dst undef) w) : wpAnyH P md ops Q S (fuel + 1) listed a w :=
  wpAnyH_take (op_of_drop hi) hs hf hr (fun c a w => hQ c a w undef) (.inr ⟨hgd, rfl⟩) hS h

/-- the one operation that may come up comes up -/
theorem wpH_one {S : World → Prop} {Q : Exit → Act → World → Prop} {md : Region.Mode} (i : Nat) {oi : Oper} {tl : List Oper} {fuel : Nat} {listed : Array Bool} {a : Act} {w : World} (hi : ops.toList.drop i = oi :: tl)
    (hr : Region.ready md ops listed = [i]) (hgd : Region.wanted oi (yielded ops a.tmps) = true) (h : oi.wp P a w (fun a' w' => S w' ∧ wpAnyH P md ops Q S fuel (listed.setIfInBounds i true) a' w') Q) : wpAnyH P md ops Q S (fuel + 1) listed a w :=
  wpAnyH_all hr (by simp) (fun j hj => by
    obtain rfl : j = i := by simpa using hj
    exact wpOp_step (op_of_drop hi) (fun K' hK => by
      rw [if_pos hgd]
      exact Oper.wp_mono hK h))

/-- the same, a store of a whole array or struct -/
theorem wpH_store_box {S : World → Prop} {Q : Exit → Act → World → Prop} {md : Region.Mode} (i : Nat) {oi : Oper} {tl : List Oper} {fuel : Nat} {listed : Array Bool} {a : Act} {w : World} (hi : ops.toList.drop i = oi :: tl)
    (hr : Region.ready md ops listed = [i]) (hgd : Region.wanted oi (yielded ops a.tmps) = true) (ty : TypeId) (x y : Operand) (ho : oi.op = .store ty x y)
    {g : Nat} {T : TypeId} {old cells : Array Value} (hg : Box w g T old) (hx : a.eval x = .pointer (some ⟨g, 0, none⟩)) (hy : a.eval y = .agg cells) (hsz : old.size = cells.size)
    (hi' : (P.info? ty).map (·.size) = some cells.size) (h1 : cells.all (·.oneCell') = true)
    (h : ∀ w', Box w' g T cells → Stored w w' g → S w' ∧ wpAnyH P md ops Q S fuel (listed.setIfInBounds i true) (a.put oi.dst undef) w') : wpAnyH P md ops Q S (fuel + 1) listed a w :=
  wpH_one i hi hr hgd (wp_store_box ty x y ho hg hx hy hsz hi' h1 h)

theorem wpList_value {rest : List Oper} {o : Oper} {a : Act} {w : World} {Q : Exit → Act → World → Prop} (hgd : Region.wanted o (yielded ops a.tmps) = true) (v : Value)
    (hr : (execOp a.eval o).run P w = .ok (.value v) w) (h : wpList P ops Q rest (a.put o.dst v) w) : wpList P ops Q (o :: rest) a w :=
  wpList_want hgd fun _ hK => by
    unfold Oper.wp
    rw [hr]
    exact hK _ _ h

theorem wpList_enter {rest : List Oper} {o : Oper} {a : Act} {w : World} {Q : Exit → Act → World → Prop} (hgd : Region.wanted o (yielded ops a.tmps) = true) (f : FuncId) (args : Array Value)
    (hr : (execOp a.eval o).run P w = .ok (.enter f args) w) (v : Value) (R : World → Prop) (hc : Calls P f args w fun e w' => e = .returned v ∧ R w')
    (h : ∀ w', R w' → wpList P ops Q rest (a.put o.dst v) w') : wpList P ops Q (o :: rest) a w :=
  wpList_want hgd fun _ hK => by
    unfold Oper.wp
    rw [hr]
    refine hc.mono fun e w' he => ?_
    obtain ⟨rfl, hw⟩ := he
    exact hK _ _ (h w' hw)

theorem wpList_alloc_box {rest : List Oper} {o : Oper} {a : Act} {w : World} {Q : Exit → Act → World → Prop} (hgd : Region.wanted o (yielded ops a.tmps) = true) (ty : TypeId) (ho : o.op = .alloc ty) (cells : Array Value)
    (hr : ∀ w, (Instr.alloc ty true (.tuple #[])).run P w = .ok (.pointer (some ⟨w.heap.size, 0, none⟩)) (w.alloc (.cells cells ty)))
    (h : wpList P ops Q rest (a.put o.dst (.pointer (some ⟨w.heap.size, 0, none⟩))) (w.alloc (.cells cells ty))) : wpList P ops Q (o :: rest) a w :=
  wpList_want hgd fun _ hK => by
    unfold Oper.wp execOp
    simp only [ho, Sem.run_bind, Sem.run_pure, Result.andThen_ok, hr]
    exact hK _ _ h

theorem wpQ_load_box {W : World} {B : Nat} {Q : Act → Prop} {a : Act} {o : Oper} {rest : List Oper} (hgd : Region.wanted o (yielded ops a.tmps) = true) (ty : TypeId) (x : Operand) (ho : o.op = .load ty x)
    {g : Nat} {T : TypeId} {cs : Array Value} (hg : Box W g T cs) (hx : a.eval x = .pointer (some ⟨g, 0, none⟩)) (hgB : g < B) {d : TypeDesc}
    (hu : P.underlying ty = some d) (hd : (match d with | .struct _ | .array _ _ => true | _ => false) = true) (hi : (P.info? ty).map (·.size) = some cs.size)
    (h : wpQuiet P ops (fun w' => Below B W w') Q rest (a.put o.dst (.agg cs))) : wpQuiet P ops (fun w' => Below B W w') Q (o :: rest) a :=
  wpQ_load_row hgd ty x ho g hx T cs (0, 0) d hg hgB hu hd hi h

theorem box_result {fn : Func} {p : Tmp} {ty : TypeId} (h : fn.results = #[.cell p ty]) (tmps : Array Value) (w : World) {g : Nat} {T : TypeId} {cs : Array Value} {d : TypeDesc}
    (hp : tmps.getD p undef = .pointer (some ⟨g, 0, none⟩)) (hg : Box w g T cs) (hu : P.underlying ty = some d) (hd : (match d with | .struct _ | .array _ _ => true | _ => false) = true) (hi : (P.info? ty).map (·.size) = some cs.size) :
    (results fn tmps).run P w = .ok (.agg cs) w :=
  results_cell_row h tmps w g T cs (0, 0) d hp hg hu hd hi
theorem box_result2 {fn : Func} {p q : Tmp} {ty : TypeId} (h : fn.results = #[.cell p ty, .tmp q]) (tmps : Array Value) (w : World) {g : Nat} {T : TypeId} {cs : Array Value} {d : TypeDesc}
    (hp : tmps.getD p undef = .pointer (some ⟨g, 0, none⟩)) (hg : Box w g T cs) (hu : P.underlying ty = some d) (hd : (match d with | .struct _ | .array _ _ => true | _ => false) = true) (hi : (P.info? ty).map (·.size) = some cs.size) :
    (results fn tmps).run P w = .ok (.tuple #[.agg cs, tmps.getD q undef]) w := by
  have hp' : tmps[p]?.getD undef = .pointer (some ⟨g, 0, none⟩) := by simpa using hp
  simp [results, h, hp', asAddr, run_loadVar_row w g T ty cs (0, 0) d hg hu hd hi]
theorem box_result3 {fn : Func} {p q r : Tmp} {ty ty' : TypeId} (h : fn.results = #[.cell p ty, .cell q ty', .tmp r]) (tmps : Array Value) (w : World) {g g' : Nat} {T T' : TypeId} {cs cs' : Array Value} {d d' : TypeDesc}
    (hp : tmps.getD p undef = .pointer (some ⟨g, 0, none⟩)) (hg : Box w g T cs) (hu : P.underlying ty = some d) (hd : (match d with | .struct _ | .array _ _ => true | _ => false) = true) (hi : (P.info? ty).map (·.size) = some cs.size)
    (hp' : tmps.getD q undef = .pointer (some ⟨g', 0, none⟩)) (hg' : Box w g' T' cs') (hu' : P.underlying ty' = some d') (hd' : (match d' with | .struct _ | .array _ _ => true | _ => false) = true) (hi' : (P.info? ty').map (·.size) = some cs'.size) :
    (results fn tmps).run P w = .ok (.tuple #[.agg cs, .agg cs', tmps.getD r undef]) w := by
  have h1 : tmps[p]?.getD undef = .pointer (some ⟨g, 0, none⟩) := by simpa using hp
  have h2 : tmps[q]?.getD undef = .pointer (some ⟨g', 0, none⟩) := by simpa using hp'
  simp [results, h, h1, h2, asAddr, run_loadVar_row w g T ty cs (0, 0) d hg hu hd hi, run_loadVar_row w g' T' ty' cs' (0, 0) d' hg' hu' hd' hi']
end Go.Proofs.Ytpkoniebbkkmjaa
namespace Go.Proofs.Ytpkoniebbkkmjaa
open Go.RowKit

/-- an element's five limbs, as a value -/
abbrev L5.v (x : L5) : Value := .agg #[.int .u64 x.a, .int .u64 x.b, .int .u64 x.c, .int .u64 x.d, .int .u64 x.e]

theorem and51 (x : Nat) (h : x < 18446744073709551616) : bits BinOp.and IntKind.u64 (x : Int) 2251799813685247 = ((low x : Nat) : Int) := by
  rw [show (2251799813685247 : Int) = ((2251799813685247 : Nat) : Int) from rfl, u64_and_nat _ _ h (by omega)]
  congr 1
  exact Nat.and_two_pow_sub_one_eq_mod x 51
theorem div51 (x : Nat) : (x : Int) / 2251799813685248 = ((car x : Nat) : Int) := by unfold car; omega

set_option maxHeartbeats 1000000 in
theorem of_any (n : Nat) (w : World) (hn : n < 18446744073709551616) :
    Calls Try.prog 29 #[.int .u64 n] w fun e w' => e = .returned (L5.v ⟨low n, car n, 0, 0, 0⟩) ∧ Below w.heap.size w w' := by
  have h := and51 n hn
  have q := div51 n
  obtain ⟨x, hx⟩ : ∃ x, x = low n := ⟨_, rfl⟩
  obtain ⟨y, hy⟩ : ∃ y, y = car n := ⟨_, rfl⟩
  rw [← hx] at h ⊢
  rw [← hy] at q ⊢
  clear hx hy
  go_enter Try.func29, Try.ntmps29
  go_wp2_with fail
  exact bodyPost_ret (v := .agg #[.int .u64 x, .int .u64 y, .int .u64 0, .int .u64 0, .int .u64 0]) (by simp [results, Try.results29, go_sem]) rfl ⟨rfl, (Below.refl _ _).alloc (Nat.le_refl _) _⟩

set_option maxHeartbeats 2000000 in
theorem carry_any (x : L5) (w : World) (h : x.lt 9223372036854775808) :
    Calls Try.prog 58 #[x.v] w fun e w' => e = .returned x.cry.v ∧ Below w.heap.size w w' := by
  have hb := c5_bd x h
  obtain ⟨a, b, c, d, e⟩ := x
  obtain ⟨h1, h2, h3, h4, h5⟩ := h
  simp only at h1 h2 h3 h4 h5
  obtain ⟨c1, hc1⟩ : ∃ y, y = car a := ⟨_, rfl⟩
  obtain ⟨r0, hr0⟩ : ∃ y, y = low a := ⟨_, rfl⟩
  have k1 : c1 ≤ 4097 := by rw [hc1]; unfold car; omega
  have m0 : r0 < 2251799813685248 := by rw [hr0]; exact low_lt _
  have e0 := div51 a
  have f0 := and51 a (by omega)
  rw [← hc1] at e0
  rw [← hr0] at f0
  obtain ⟨t1, ht1⟩ : ∃ y, y = b + c1 := ⟨_, rfl⟩
  have s1 : (b : Int) + (c1 : Int) = (t1 : Int) := by omega
  have u1 : t1 < 9223372036854800000 := by omega
  obtain ⟨c2, hc2⟩ : ∃ y, y = car t1 := ⟨_, rfl⟩
  obtain ⟨r1, hr1⟩ : ∃ y, y = low t1 := ⟨_, rfl⟩
  have k2 : c2 ≤ 4097 := by rw [hc2]; unfold car; omega
  have m1 : r1 < 2251799813685248 := by rw [hr1]; exact low_lt _
  have e1 := div51 t1
  have f1 := and51 t1 (by omega)
  rw [← hc2] at e1
  rw [← hr1] at f1
  obtain ⟨t2, ht2⟩ : ∃ y, y = c + c2 := ⟨_, rfl⟩
  have s2 : (c : Int) + (c2 : Int) = (t2 : Int) := by omega
  have u2 : t2 < 9223372036854800000 := by omega
  obtain ⟨c3, hc3⟩ : ∃ y, y = car t2 := ⟨_, rfl⟩
  obtain ⟨r2, hr2⟩ : ∃ y, y = low t2 := ⟨_, rfl⟩
  have k3 : c3 ≤ 4097 := by rw [hc3]; unfold car; omega
  have m2 : r2 < 2251799813685248 := by rw [hr2]; exact low_lt _
  have e2 := div51 t2
  have f2 := and51 t2 (by omega)
  rw [← hc3] at e2
  rw [← hr2] at f2
  obtain ⟨t3, ht3⟩ : ∃ y, y = d + c3 := ⟨_, rfl⟩
  have s3 : (d : Int) + (c3 : Int) = (t3 : Int) := by omega
  have u3 : t3 < 9223372036854800000 := by omega
  obtain ⟨c4, hc4⟩ : ∃ y, y = car t3 := ⟨_, rfl⟩
  obtain ⟨r3, hr3⟩ : ∃ y, y = low t3 := ⟨_, rfl⟩
  have k4 : c4 ≤ 4097 := by rw [hc4]; unfold car; omega
  have m3 : r3 < 2251799813685248 := by rw [hr3]; exact low_lt _
  have e3 := div51 t3
  have f3 := and51 t3 (by omega)
  rw [← hc4] at e3
  rw [← hr3] at f3
  obtain ⟨t4, ht4⟩ : ∃ y, y = e + c4 := ⟨_, rfl⟩
  have s4 : (e : Int) + (c4 : Int) = (t4 : Int) := by omega
  have u4 : t4 < 9223372036854800000 := by omega
  obtain ⟨c5, hc5⟩ : ∃ y, y = car t4 := ⟨_, rfl⟩
  obtain ⟨r4, hr4⟩ : ∃ y, y = low t4 := ⟨_, rfl⟩
  have k5 : c5 ≤ 4097 := by rw [hc5]; unfold car; omega
  have m4 : r4 < 2251799813685248 := by rw [hr4]; exact low_lt _
  have e4 := div51 t4
  have f4 := and51 t4 (by omega)
  rw [← hc5] at e4
  rw [← hr4] at f4
  have HX := Lib.hid (show (L5.mk a b c d e).cry = ⟨r0 + 19 * c5, r1, r2, r3, r4⟩ by
    simp only [L5.cry, L5.c5, L5.c4, L5.c3, L5.c2, L5.c1, ← hc1, ← ht1, ← hc2, ← ht2, ← hc3, ← ht3, ← hc4, ← ht4, ← hc5, ← hr0, ← hr1, ← hr2, ← hr3, ← hr4])
  rw [HX.out]
  obtain ⟨z, hz⟩ : ∃ z, z = r0 + 19 * c5 := ⟨_, rfl⟩
  have sz : (r0 : Int) + 19 * (c5 : Int) = (z : Int) := by omega
  rw [← hz]
  clear hb hc1 hc2 hc3 hc4 hc5 ht1 ht2 ht3 ht4 hr0 hr1 hr2 hr3 hr4 hz HX
  go_enter Try.func58, Try.ntmps58
  go_wp2_with fail
  refine wp_loop_rounds 6 ?_
  rw [rounds_succ]
  go_wp2_with fail
  rw [rounds_succ]
  go_wp2_with fail
  rw [rounds_succ]
  go_wp2_with fail
  rw [rounds_succ]
  go_wp2_with fail
  rw [rounds_succ]
  go_wp2_with fail
  rw [rounds_succ]
  go_wp2_with fail
  exact bodyPost_ret (v := .agg #[.int .u64 z, .int .u64 r1, .int .u64 r2, .int .u64 r3, .int .u64 r4]) (by simp [results, Try.results58, go_sem]) rfl ⟨rfl, ((Below.refl _ _).alloc (Nat.le_refl _) _).alloc (by simp) _⟩
end Go.Proofs.Ytpkoniebbkkmjaa
namespace Go.Proofs.Ytpkoniebbkkmjaa
open Go.RowKit

/-- the cells of sixteen limbs -/
def fArr (f : Nat → Nat) : Array Value := ((List.range 16).map fun j => Value.int .u64 (f j : Nat)).toArray
theorem fArr_get (f : Nat → Nat) (j : Nat) (h : j < 16) : (fArr f)[j]? = some (.int .u64 (f j : Nat)) := by
  simp [fArr, List.getElem?_map, List.getElem?_range h]
theorem fArr_size (f : Nat → Nat) : (fArr f).size = 16 := by simp [fArr]
theorem fArr_set (f : Nat → Nat) (i v : Nat) : (fArr f).setIfInBounds i (.int .u64 (v : Nat)) = fArr (upd f i v) := by
  apply Array.ext
  · simp [fArr]
  · intro j h1 h2
    simp only [fArr, List.size_toArray, List.length_map, List.length_range] at h2
    rw [Array.getElem_setIfInBounds (by simpa [fArr] using h2)]
    by_cases hj : i = j
    · subst hj; simp [fArr, upd]
    · rw [if_neg hj]; simp [fArr, upd, show ¬ j = i from fun e => hj e.symm]
theorem fArr_congr {f g : Nat → Nat} (h : ∀ j, j < 16 → f j = g j) : fArr f = fArr g := by
  unfold fArr
  congr 1
  apply List.map_congr_left
  intro j hj
  rw [h j (by simpa using hj)]
theorem fArr_one (f : Nat → Nat) : (fArr f).all (·.oneCell') = true := all_oneCell_toArray (fun v hv => by simp at hv; obtain ⟨j, _, rfl⟩ := hv; rfl)
theorem upd_upd (f : Nat → Nat) (i v u : Nat) : upd (upd f i v) i u = upd f i u := by funext j; unfold upd; split <;> rfl
theorem fArr_zero : fArr (fun _ => 0) = Array.replicate 16 (Value.int .u64 0) := by
  apply Array.ext
  · simp [fArr]
  · intro j h1 h2; simp [fArr]

def turns (f : Nat → Nat) : Nat → Nat → Nat | 0 => f | t + 1 => turn (turns f t)
theorem turns_bd {f : Nat → Nat} (h : ∀ j, j < 16 → f j < 140737488355328) : ∀ t j, j < 16 → turns f t j < 140737488355328
  | 0 => h
  | t + 1 => turn_bd _ (turns_bd h t)

set_option maxRecDepth 100000 in
set_option maxHeartbeats 4000000 in
theorem fit_any (f : Nat → Nat) (w : World) (h : ∀ j, j < 16 → f j < 140737488355328) :
    Calls Try.prog 60 #[.agg (fArr f)] w fun e w' => e = .returned (.agg (fArr (dig (fval f 16 % P25)))) ∧ Below w.heap.size w w' := by
  obtain ⟨R, hR⟩ : ∃ R, R = fArr (dig (fval f 16 % P25)) := ⟨_, rfl⟩
  rw [← hR]
  have HR := Lib.hid hR
  have HH := Lib.hid h
  have HT := Lib.hid (turns_ok f h)
  clear hR h
  obtain ⟨C0, hC0⟩ : ∃ C0, C0 = fArr f := ⟨_, rfl⟩
  rw [← hC0]
  have HC0 := Lib.hid hC0
  clear hC0
  go_enter Try.func60, Try.ntmps60
  go_wp2_with fail
  obtain ⟨Z, hZ⟩ : ∃ Z, Z = Array.replicate 16 (Value.int .u64 0) := ⟨_, rfl⟩
  have g0 : Box ((w.alloc (.cells C0 34)).alloc (.cells (Array.replicate 16 (Value.int .u64 0)) 34)) w.heap.size 34 C0 := (Box.new _ _ _).alloc _
  have g1 : Box ((w.alloc (.cells C0 34)).alloc (.cells (Array.replicate 16 (Value.int .u64 0)) 34)) (w.heap.size + 1) 34 (Array.replicate 16 (Value.int .u64 0)) := heap_alloc2_new _ _ _
  have g2 : Below w.heap.size w ((w.alloc (.cells C0 34)).alloc (.cells (Array.replicate 16 (Value.int .u64 0)) 34)) := ((Below.refl w.heap.size w).alloc (Nat.le_refl _) _).alloc (by simp) _
  have g3 : w.heap.size + 2 ≤ ((w.alloc (.cells C0 34)).alloc (.cells (Array.replicate 16 (Value.int .u64 0)) 34)).heap.size := by simp
  change Code.wp _ _ _ _ ((w.alloc (.cells C0 34)).alloc (.cells (Array.replicate 16 (Value.int .u64 0)) 34))
  generalize ((w.alloc (.cells C0 34)).alloc (.cells (Array.replicate 16 (Value.int .u64 0)) 34)) = W at *
  rw [HC0.out] at g0
  rw [← hZ] at g1
  have hZs : Z.size = 16 := by rw [hZ]; simp
  have HZS := Lib.hid hZs
  clear hZ hZs
  go_loopw [3] (fun t wr => ∃ s : Nat, s ≤ 3 ∧ t = .int .i64 s ∧ Box wr w.heap.size 34 (fArr (turns f s)) ∧ Below w.heap.size w wr ∧ Box wr (w.heap.size + 1) 34 Z ∧ w.heap.size + 2 ≤ wr.heap.size) (fun t _ => 3 - (intOf t).toNat)
  case atStart => exact ⟨0, by omega, rfl, g0, g2, g1, g3⟩
  case round =>
    obtain ⟨wa, rfl⟩ : ∃ wa : World, wa = wr := ⟨_, rfl⟩
    obtain ⟨s, hs3, rfl, hX0, hrest0⟩ := hrel
    clear g0 g1 g2 g3
    have hbd := turns_bd HH.out s
    have HN := Lib.hid (show turns f (s + 1) = turn (turns f s) from rfl)
    obtain ⟨g, hg⟩ : ∃ g, g = turns f s := ⟨_, rfl⟩
    rw [← hg] at hX0 hbd HN
    have HG := Lib.hid hg
    clear hg
    by_cases hlts : s < 3
    · go_wp2_with fail
      go_loopw [4, 5] (fun c i wr => ∃ k : Nat, k ≤ 16 ∧ i = .int .i64 k ∧ c = .int .u64 (cr g k : Nat) ∧ Box wr w.heap.size 34 (fArr (pf g k)) ∧ Below w.heap.size w wr ∧ Box wr (w.heap.size + 1) 34 Z ∧ w.heap.size + 2 ≤ wr.heap.size) (fun _ i _ => 16 - (intOf i).toNat)
      case atStart => exact ⟨0, by omega, rfl, rfl, by rw [pf_zero]; exact hX0, hrest0⟩
      case round =>
        obtain ⟨wb, rfl⟩ : ∃ wb : World, wb = wr := ⟨_, rfl⟩
        obtain ⟨k, hk, rfl, rfl, hX, hrest⟩ := hrel
        by_cases hlt : k < 16
        · have gx := hX.cell k (fArr_get (pf g k) k hlt)
          rw [pf_here] at gx
          have fx := hX.frozen k
          have bx := hbd k hlt
          have bc := cr_lt (M := 2147483648) (fun j hj => by have := hbd j hj; omega) k hk
          have hs := pf_step g k
          have hn : nf g k = (g k + cr g k) % 65536 := rfl
          have hc : cr g (k + 1) = (g k + cr g k) / 65536 := rfl
          obtain ⟨x, hx⟩ : ∃ x, x = g k := ⟨_, rfl⟩
          obtain ⟨c, hcc⟩ : ∃ c, c = cr g k := ⟨_, rfl⟩
          rw [← hx] at gx bx hn hc
          rw [← hcc] at bc hn hc ⊢
          obtain ⟨t, ht⟩ : ∃ t, t = x + c := ⟨_, rfl⟩
          rw [← ht] at hn hc
          have e1 : (x : Int) + (c : Int) = (t : Int) := by omega
          have bt : t < 140741783322624 + 1 := by omega
          obtain ⟨q, hq⟩ : ∃ q, q = t / 65536 := ⟨_, rfl⟩
          obtain ⟨r, hr⟩ : ∃ r, r = t % 65536 := ⟨_, rfl⟩
          have e2 : (t : Int) / 65536 = (q : Int) := by omega
          have e3 : (t : Int) % 65536 = (r : Int) := by omega
          have HQ := Lib.hid (show cr g (k + 1) = q by rw [hc, hq])
          have HS := Lib.hid (show upd (pf g k) k r = pf g (k + 1) by rw [← hs, hn, hr])
          clear hs hn hc hx hcc ht hq hr
          go_wp2_with fail
          refine ⟨⟨k + 1, by omega, by go_num, by rw [HQ.out], ?_, ?_⟩, by simp [intOf]; omega⟩
          · have h1 := (hX.set k (.int .u64 (t : Nat))).set k (.int .u64 (r : Nat))
            rw [fArr_set, fArr_set, upd_upd, HS.out] at h1
            exact h1
          · exact ⟨(hrest.1.setCell (by simp) _).setCell (by simp) _, (hrest.2.1.far _ _ (by simp)).far _ _ (by simp), by simpa using hrest.2.2⟩
        · obtain rfl : k = 16 := by omega
          have p15 : pf g 16 15 = nf g 15 := rfl
          have p0 : pf g 16 0 = nf g 0 := rfl
          have x15 := hX.cell 15 (fArr_get (pf g 16) 15 (by omega))
          have x0 := hX.cell 0 (fArr_get (pf g 16) 0 (by omega))
          have f15 := hX.frozen 15
          have f0 := hX.frozen 0
          rw [p15] at x15
          rw [p0] at x0
          have b15 := nf_lt g 15
          have b0 := nf_lt g 0
          have bc := cr_lt (M := 2147483648) (fun j hj => by have := hbd j hj; omega) 16 (Nat.le_refl _)
          have ho : over g = 2 * cr g 16 + nf g 15 / 32768 := rfl
          have ht0 : turn g 0 = nf g 0 + 19 * over g := rfl
          have ht15 : turn g 15 = nf g 15 % 32768 := rfl
          have htt : ∀ j, j < 16 → upd (upd (pf g 16) 15 (turn g 15)) 0 (turn g 0) j = turn g j := fun j hj => by
            unfold upd
            by_cases h0 : j = 0
            · rw [if_pos h0, h0]
            · rw [if_neg h0]
              by_cases h15 : j = 15
              · rw [if_pos h15, h15]
              · rw [if_neg h15]; unfold pf turn; rw [if_pos hj, if_neg h0, if_neg h15]
          obtain ⟨c, hc⟩ : ∃ c, c = cr g 16 := ⟨_, rfl⟩
          obtain ⟨u, hu⟩ : ∃ u, u = nf g 15 := ⟨_, rfl⟩
          obtain ⟨v, hv⟩ : ∃ v, v = nf g 0 := ⟨_, rfl⟩
          obtain ⟨o, hoo⟩ : ∃ o, o = over g := ⟨_, rfl⟩
          obtain ⟨z, hz⟩ : ∃ z, z = turn g 0 := ⟨_, rfl⟩
          obtain ⟨y, hy⟩ : ∃ y, y = turn g 15 := ⟨_, rfl⟩
          rw [← hc, ← hu, ← hoo] at ho
          rw [← hz, ← hv, ← hoo] at ht0
          rw [← hy, ← hu] at ht15
          rw [← hy, ← hz] at htt
          rw [← hu] at x15 b15
          rw [← hv] at x0 b0
          rw [← hc] at bc ⊢
          obtain ⟨m, hm⟩ : ∃ m, m = u / 32768 := ⟨_, rfl⟩
          have e1 : 2 * (c : Int) + (m : Int) = (o : Int) := by omega
          have e2 : (u : Int) / 32768 = (m : Int) := by omega
          have e3 : (u : Int) % 32768 = (y : Int) := by omega
          have e4 : (v : Int) + 19 * (o : Int) = (z : Int) := by omega
          have bo : o ≤ 8589934594 := by omega
          have bm : m ≤ 2 := by omega
          have HTT := Lib.hid (fArr_congr htt)
          clear htt ho ht0 ht15 hc hu hv hoo hz hy hm p15 p0
          go_wp2_with fail
          refine ⟨⟨s + 1, by omega, by go_num, ?_, ?_⟩, by simp [intOf]; omega⟩
          · have h1 := (hX.set 15 (.int .u64 (y : Nat))).set 0 (.int .u64 (z : Nat))
            rw [fArr_set, fArr_set, HTT.out] at h1
            rw [HN.out]
            exact h1
          · exact ⟨(hrest.1.setCell (by simp) _).setCell (by simp) _, (hrest.2.1.far _ _ (by simp)).far _ _ (by simp), by simpa using hrest.2.2⟩
    · obtain rfl : s = 3 := by omega
      have HV : Hid (fval g 16 < 57896044618658097711785492504343953926634992332820282019728792003956564819968 ∧ fval g 16 % P25 = fval f 16 % P25) := by rw [HG.out]; exact HT.out
      clear HN
      go_wp2_with fail
      go_loopw [7, 8] (fun c i wr => ∃ k : Nat, k ≤ 16 ∧ i = .int .i64 k ∧ c = .int .u64 (cr g k : Nat) ∧ Box wr w.heap.size 34 (fArr (pf g k)) ∧ Below w.heap.size w wr ∧ Box wr (w.heap.size + 1) 34 Z ∧ w.heap.size + 2 ≤ wr.heap.size) (fun _ i _ => 16 - (intOf i).toNat)
      case atStart => exact ⟨0, by omega, rfl, rfl, by rw [pf_zero]; exact hX0, hrest0⟩
      case round =>
        obtain ⟨wb, rfl⟩ : ∃ wb : World, wb = wr := ⟨_, rfl⟩
        obtain ⟨k, hk, rfl, rfl, hX, hrest⟩ := hrel
        by_cases hlt : k < 16
        · have gx := hX.cell k (fArr_get (pf g k) k hlt)
          rw [pf_here] at gx
          have fx := hX.frozen k
          have bx := hbd k hlt
          have bc := cr_lt (M := 2147483648) (fun j hj => by have := hbd j hj; omega) k hk
          have hs := pf_step g k
          have hn : nf g k = (g k + cr g k) % 65536 := rfl
          have hc : cr g (k + 1) = (g k + cr g k) / 65536 := rfl
          obtain ⟨x, hx⟩ : ∃ x, x = g k := ⟨_, rfl⟩
          obtain ⟨c, hcc⟩ : ∃ c, c = cr g k := ⟨_, rfl⟩
          rw [← hx] at gx bx hn hc
          rw [← hcc] at bc hn hc ⊢
          obtain ⟨t, ht⟩ : ∃ t, t = x + c := ⟨_, rfl⟩
          rw [← ht] at hn hc
          have e1 : (x : Int) + (c : Int) = (t : Int) := by omega
          have bt : t < 140741783322624 + 1 := by omega
          obtain ⟨q, hq⟩ : ∃ q, q = t / 65536 := ⟨_, rfl⟩
          obtain ⟨r, hr⟩ : ∃ r, r = t % 65536 := ⟨_, rfl⟩
          have e2 : (t : Int) / 65536 = (q : Int) := by omega
          have e3 : (t : Int) % 65536 = (r : Int) := by omega
          have HQ := Lib.hid (show cr g (k + 1) = q by rw [hc, hq])
          have HS := Lib.hid (show upd (pf g k) k r = pf g (k + 1) by rw [← hs, hn, hr])
          clear hs hn hc hx hcc ht hq hr
          go_wp2_with fail
          refine ⟨⟨k + 1, by omega, by go_num, by rw [HQ.out], ?_, ?_⟩, by simp [intOf]; omega⟩
          · have h1 := (hX.set k (.int .u64 (t : Nat))).set k (.int .u64 (r : Nat))
            rw [fArr_set, fArr_set, upd_upd, HS.out] at h1
            exact h1
          · exact ⟨(hrest.1.setCell (by simp) _).setCell (by simp) _, (hrest.2.1.far _ _ (by simp)).far _ _ (by simp), by simpa using hrest.2.2⟩
        · obtain rfl : k = 16 := by omega
          have hXd : ∀ j, j < 16 → pf g 16 j = dig (fval g 16) j := fun j hj => by
            rw [← nf_dig g (by have := HV.out.1; omega) j hj]; unfold pf; rw [if_pos hj]
          obtain ⟨v, hv⟩ : ∃ v, v = fval g 16 := ⟨_, rfl⟩
          rw [← hv] at hXd HV
          have HVL := Lib.hid HV.out.1
          have HVR := Lib.hid (show R = fArr (dig (v % P25)) by rw [HR.out, HV.out.2])
          clear hv HV
          obtain ⟨X, hXe⟩ : ∃ X, X = pf g 16 := ⟨_, rfl⟩
          rw [← hXe] at hXd hX
          have HXD := Lib.hid hXd
          clear hXe hXd hX0 hbd hrest0
          go_upto_region 21 with fail
          go_step
          refine wpList_load_box rfl 34 _ rfl hX (by rfl) Try.underlying34 rfl (by rw [fArr_size]; kernel_rfl) ?_
          refine wpList_alloc_box rfl 34 rfl (Array.replicate 16 (Value.int .u64 0)) (by intro w; simp [go_sem]; rfl) ?_
          refine wpList_store_box rfl 34 _ _ rfl (Box.new _ _ _) (by rfl) (by rfl) (by simp [fArr_size]) (by rw [fArr_size]; kernel_rfl) (fArr_one _) ?_
          intro w2 hY2 hst
          simp only [Act.put, List.setIfInBounds_toArray, List.set_cons_zero, List.set_cons_succ]
          have hO : w.heap.size + 2 ≤ wb.heap.size := hrest.2.2
          have hX2 := hst.box (hX.alloc _) (Nat.ne_of_lt hX.lt)
          have hZ2 := hst.box (hrest.2.1.alloc _) (Nat.ne_of_lt hrest.2.1.lt)
          have hB2 := hst.below _ _ (by omega) (hrest.1.alloc (by omega) _)
          have hS2 : wb.heap.size + 1 = w2.heap.size := by have := hst.size; simp at this; omega
          clear hst hX hrest
          generalize wb.heap.size = O at *
          have y0 := hY2.cell 0 (fArr_get X 0 (by omega))
          have yf := hY2.frozen 0
          have hXl : ∀ j, j < 16 → X j < 65536 := fun j hj => by rw [HXD.out j hj]; exact dig_lt _ _
          have x0l := hXl 0 (by omega)
          have hp0 : upd X 0 (X 0 + 19) = plus19 X := by
            funext j; unfold upd plus19; split <;> simp
          have hpv := plus19_val X
          have hpb : ∀ j, j < 16 → plus19 X j < 140737488355328 := fun j hj => by
            have := hXl j hj
            unfold plus19; split <;> omega
          obtain ⟨xz, hxz⟩ : ∃ xz, xz = X 0 := ⟨_, rfl⟩
          rw [← hxz] at y0 x0l hp0
          obtain ⟨z, hz⟩ : ∃ z, z = xz + 19 := ⟨_, rfl⟩
          rw [← hz] at hp0
          have e1 : (xz : Int) + 19 = (z : Int) := by omega
          have hY3 := hY2.set 0 (.int .u64 (z : Nat))
          rw [fArr_set, hp0] at hY3
          have hX3 : Box (w2.setCell ⟨O, 0, none⟩ (.int .u64 (z : Nat))) w.heap.size 34 (fArr X) := hX2.far _ _ (by simp; omega)
          have hZ3 : Box (w2.setCell ⟨O, 0, none⟩ (.int .u64 (z : Nat))) (w.heap.size + 1) 34 Z := hZ2.far _ _ (by simp; omega)
          have hB3 : Below w.heap.size w (w2.setCell ⟨O, 0, none⟩ (.int .u64 (z : Nat))) := hB2.setCell (by simp; omega) _
          have hS3 : w.heap.size + 2 ≤ (w2.setCell ⟨O, 0, none⟩ (.int .u64 (z : Nat))).heap.size := by simp; omega
          have HPV := Lib.hid hpv
          have HXL := Lib.hid hXl
          clear hp0 hpv hxz hz hX2 hZ2 hB2 hY2 hXl
          obtain ⟨Y, hYe⟩ : ∃ Y, Y = plus19 X := ⟨_, rfl⟩
          rw [← hYe] at hY3 hpb HPV
          have HYE := Lib.hid hYe
          clear hYe
          go_wp2_with fail
          generalize w2.setCell ⟨O, 0, none⟩ (.int .u64 (z : Nat)) = W3 at *
          clear hS2 y0 yf
          go_loopw [7, 10] (fun c i wr => ∃ k : Nat, k ≤ 16 ∧ i = .int .i64 k ∧ c = .int .u64 (cr Y k : Nat) ∧ Box wr O 34 (fArr (pf Y k)) ∧ Below w.heap.size w wr ∧ Box wr (w.heap.size + 1) 34 Z ∧ w.heap.size + 2 ≤ wr.heap.size ∧ Box wr w.heap.size 34 (fArr X)) (fun _ i _ => 16 - (intOf i).toNat)
          case atStart => exact ⟨0, by omega, rfl, rfl, by rw [pf_zero]; exact hY3, ⟨hB3, hZ3, hS3, hX3⟩⟩
          case round =>
            obtain ⟨wb, rfl⟩ : ∃ wb : World, wb = wr := ⟨_, rfl⟩
            obtain ⟨k, hk, rfl, rfl, hX, hrest⟩ := hrel
            by_cases hlt : k < 16
            · have gx := hX.cell k (fArr_get (pf Y k) k hlt)
              rw [pf_here] at gx
              have fx := hX.frozen k
              have bx := hpb k hlt
              have bc := cr_lt (M := 2147483648) (fun j hj => by have := hpb j hj; omega) k hk
              have hs := pf_step Y k
              have hn : nf Y k = (Y k + cr Y k) % 65536 := rfl
              have hc : cr Y (k + 1) = (Y k + cr Y k) / 65536 := rfl
              obtain ⟨x, hx⟩ : ∃ x, x = Y k := ⟨_, rfl⟩
              obtain ⟨c, hcc⟩ : ∃ c, c = cr Y k := ⟨_, rfl⟩
              rw [← hx] at gx bx hn hc
              rw [← hcc] at bc hn hc ⊢
              obtain ⟨t, ht⟩ : ∃ t, t = x + c := ⟨_, rfl⟩
              rw [← ht] at hn hc
              have e1 : (x : Int) + (c : Int) = (t : Int) := by omega
              have bt : t < 140741783322624 + 1 := by omega
              obtain ⟨q, hq⟩ : ∃ q, q = t / 65536 := ⟨_, rfl⟩
              obtain ⟨r, hr⟩ : ∃ r, r = t % 65536 := ⟨_, rfl⟩
              have e2 : (t : Int) / 65536 = (q : Int) := by omega
              have e3 : (t : Int) % 65536 = (r : Int) := by omega
              have HQ := Lib.hid (show cr Y (k + 1) = q by rw [hc, hq])
              have HS := Lib.hid (show upd (pf Y k) k r = pf Y (k + 1) by rw [← hs, hn, hr])
              clear hs hn hc hx hcc ht hq hr
              go_wp2_with fail
              refine ⟨⟨k + 1, by omega, by go_num, by rw [HQ.out], ?_, ?_⟩, by simp [intOf]; omega⟩
              · have h1 := (hX.set k (.int .u64 (t : Nat))).set k (.int .u64 (r : Nat))
                rw [fArr_set, fArr_set, upd_upd, HS.out] at h1
                exact h1
              · exact ⟨(hrest.1.setCell (by simp; omega) _).setCell (by simp; omega) _, (hrest.2.1.far _ _ (by simp; omega)).far _ _ (by simp; omega), by simpa using hrest.2.2.1, (hrest.2.2.2.far _ _ (by simp; omega)).far _ _ (by simp; omega)⟩
            · obtain rfl : k = 16 := by omega
              have hfx : fval X 16 = v := by
                rw [fval_congr 16 HXD.out, fval_of_dig]
                exact Nat.mod_eq_of_lt (by simp only [Nat.reducePow]; have := HVL.out; omega)
              have hYd : ∀ j, j < 16 → pf Y 16 j = dig (v + 19) j := fun j hj => by
                have hval : fval Y 16 = v + 19 := by rw [HPV.out, hfx]
                rw [← hval, ← nf_dig Y (by rw [hval]; have := HVL.out; omega) j hj]; unfold pf; rw [if_pos hj]
              obtain ⟨E, hE⟩ : ∃ E, E = pf Y 16 := ⟨_, rfl⟩
              rw [← hE] at hYd hX
              have hend := fit_end v HVL.out X E HXD.out hYd
              have he := hX.cell 15 (fArr_get E 15 (by omega))
              have hef := hX.frozen 15
              have hel : E 15 < 65536 := by rw [hYd 15 (by omega)]; exact dig_lt _ _
              have hlu : upd E 15 (E 15 - 32768) = less15 E := by funext j; unfold upd less15; split <;> simp
              obtain ⟨e, hee⟩ : ∃ e, e = E 15 := ⟨_, rfl⟩
              rw [← hee] at he hel hlu hend
              clear hE hYd hY3 hX3 hZ3 hB3 hS3 hee hfx
              have hZb := hrest.2.1
              have hBb := hrest.1
              have hXb := hrest.2.2.2
              clear hrest
              generalize cr Y 16 = c9
              by_cases hge : 32768 ≤ e
              · have HEND := Lib.hid (fArr_congr (hend.1 hge))
                obtain ⟨d, hd⟩ : ∃ d, d = e - 32768 := ⟨_, rfl⟩
                rw [← hd] at hlu
                have e2 : (e : Int) - 32768 = (d : Int) := by omega
                have hD := hX.set 15 (.int .u64 (d : Nat))
                rw [fArr_set, hlu, HEND.out, ← HVR.out] at hD
                have hZd : Box (wb.setCell ⟨O, 15, none⟩ (.int .u64 (d : Nat))) (w.heap.size + 1) 34 Z := hZb.far _ _ (by simp; omega)
                have hBd : Below w.heap.size w (wb.setCell ⟨O, 15, none⟩ (.int .u64 (d : Nat))) := hBb.setCell (by simp; omega) _
                have hRs : R.size = 16 := by rw [HVR.out]; exact fArr_size _
                have hR1 : R.all (·.oneCell') = true := by rw [HVR.out]; exact fArr_one _
                have HD := Lib.hid hD
                have HRS := Lib.hid hRs
                have HR1 := Lib.hid hR1
                clear hR1
                clear hd hlu hend hD hX hXb hZb hRs
                go_upto_if 101 with fail
                rw [show decide ((32768 : Int) ≤ (e : Int)) = true by rw [decide_eq_true_eq]; omega]
                go_upto_region 32 with fail
                generalize wb.setCell ⟨O, 15, none⟩ (.int .u64 (d : Nat)) = W4 at *
                go_step
                refine wpList_load_box rfl 34 _ rfl HD.out (by rfl) Try.underlying34 rfl (by rw [HRS.out]; kernel_rfl) ?_
                refine wpList_store_box rfl 34 _ _ rfl hZd (by rfl) (by rfl) (by rw [HZS.out, HRS.out]) (by rw [HRS.out]; kernel_rfl) HR1.out ?_
                intro w5 hY5 hst5
                have hB5 := hst5.below _ _ (by omega) hBd
                clear hst5 hZd hBd HD
                simp only [Act.put, List.setIfInBounds_toArray, List.set_cons_zero, List.set_cons_succ]
                go_wp2_with fail
                exact bodyPost_ret (v := .agg R) (box_result rfl _ _ (by rfl) hY5 Try.underlying34 rfl (by rw [HRS.out]; kernel_rfl)) rfl ⟨rfl, hB5⟩
              · have HEND := Lib.hid (fArr_congr (hend.2 (by omega)))
                have hR' : Box wb w.heap.size 34 R := by rw [HVR.out, ← HEND.out]; exact hXb
                have hRs : R.size = 16 := by rw [HVR.out]; exact fArr_size _
                have hR1 : R.all (·.oneCell') = true := by rw [HVR.out]; exact fArr_one _
                have HD := Lib.hid hR'
                have HRS := Lib.hid hRs
                have HR1 := Lib.hid hR1
                clear hR1
                clear hlu hend hR' hX hXb hRs
                go_upto_if 101 with fail
                rw [show decide ((32768 : Int) ≤ (e : Int)) = false by rw [decide_eq_false_iff_not]; omega]
                go_upto_region 33 with fail
                go_step
                refine wpList_load_box rfl 34 _ rfl HD.out (by rfl) Try.underlying34 rfl (by rw [HRS.out]; kernel_rfl) ?_
                refine wpList_store_box rfl 34 _ _ rfl hZb (by rfl) (by rfl) (by rw [HZS.out, HRS.out]) (by rw [HRS.out]; kernel_rfl) HR1.out ?_
                intro w5 hY5 hst5
                have hB5 := hst5.below _ _ (by omega) hBb
                clear hst5 hZb hBb HD
                simp only [Act.put, List.setIfInBounds_toArray, List.set_cons_zero, List.set_cons_succ]
                go_wp2_with fail
                exact bodyPost_ret (v := .agg R) (box_result rfl _ _ (by rfl) hY5 Try.underlying34 rfl (by rw [HRS.out]; kernel_rfl)) rfl ⟨rfl, hB5⟩
end Go.Proofs.Ytpkoniebbkkmjaa
namespace Go.Proofs.Ytpkoniebbkkmjaa

/-- byte j of the lowest i bits of n -/
def byteAt (n i j : Nat) : Nat := n % 2 ^ i / 256 ^ j % 256
/-- bit i of n -/
def bitAt (n i : Nat) : Nat := n / 2 ^ i % 2

theorem byteAt_lt (n i j : Nat) : byteAt n i j < 256 := Nat.mod_lt _ (by omega)
theorem bitAt_lt (n i : Nat) : bitAt n i < 2 := Nat.mod_lt _ (by omega)
theorem byteAt_zero (n j : Nat) : byteAt n 0 j = 0 := by simp [byteAt, Nat.mod_one]

theorem pow256 (j : Nat) : 256 ^ j = 2 ^ (8 * j) := by rw [Nat.pow_mul]

theorem byteAt_other (n i j : Nat) (h : j ≠ i / 8) : byteAt n (i + 1) j = byteAt n i j := by
  unfold byteAt
  rw [Nat.mod_pow_succ]
  rcases Nat.lt_or_gt_of_ne h with h | h
  · obtain ⟨e, he⟩ : ∃ e, i = 8 * j + (8 + e) := ⟨i - 8 * j - 8, by omega⟩
    rw [show (2 : Nat) ^ i * (n / 2 ^ i % 2) = 256 ^ j * (256 * (2 ^ e * (n / 2 ^ i % 2))) by
      rw [pow256]; conv => lhs; lhs; rw [he]
      rw [Nat.pow_add, Nat.pow_add]; simp only [Nat.mul_assoc]]
    rw [Nat.add_mul_div_left _ _ (Nat.pos_of_ne_zero (by simp)), Nat.add_mul_mod_self_left]
  · have h1 : n % 2 ^ i < 2 ^ i := Nat.mod_lt _ (Nat.pos_of_ne_zero (by simp))
    have h2 : 2 ^ (i + 1) ≤ 256 ^ j := by rw [pow256]; exact Nat.pow_le_pow_right (by omega) (by omega)
    have h3 : n / 2 ^ i % 2 ≤ 1 := by omega
    have h4 : 2 ^ i * (n / 2 ^ i % 2) ≤ 2 ^ i * 1 := Nat.mul_le_mul_left _ h3
    rw [Nat.pow_succ] at h2
    rw [Nat.div_eq_of_lt (by omega), Nat.div_eq_of_lt (by omega)]

theorem byteAt_here (n i : Nat) : byteAt n (i + 1) (i / 8) = byteAt n i (i / 8) ||| (bitAt n i * 2 ^ (i % 8)) := by
  have hi : (2 : Nat) ^ i = 256 ^ (i / 8) * 2 ^ (i % 8) := by rw [pow256, ← Nat.pow_add]; congr 1; omega
  have h1 : n % 2 ^ i < 2 ^ i := Nat.mod_lt _ (Nat.pos_of_ne_zero (by simp))
  have h2 : n % 2 ^ i / 256 ^ (i / 8) < 2 ^ (i % 8) := by
    rw [Nat.div_lt_iff_lt_mul (Nat.pos_of_ne_zero (by simp)), Nat.mul_comm, ← hi]; exact h1
  have h3 : (2 : Nat) ^ (i % 8) ≤ 128 := by
    have : (2 : Nat) ^ (i % 8) ≤ 2 ^ 7 := Nat.pow_le_pow_right (by omega) (by omega)
    omega
  have hb : bitAt n i = 0 ∨ bitAt n i = 1 := by have := bitAt_lt n i; omega
  have e : n % 2 ^ (i + 1) / 256 ^ (i / 8) = n % 2 ^ i / 256 ^ (i / 8) + 2 ^ (i % 8) * bitAt n i := by
    rw [Nat.mod_pow_succ]
    show (n % 2 ^ i + 2 ^ i * bitAt n i) / 256 ^ (i / 8) = _
    conv => lhs; lhs; rhs; rw [hi, Nat.mul_assoc]
    rw [Nat.add_mul_div_left _ _ (Nat.pos_of_ne_zero (by simp))]
  unfold byteAt
  rw [e]
  have f : n % 2 ^ i / 256 ^ (i / 8) % 256 = n % 2 ^ i / 256 ^ (i / 8) := Nat.mod_eq_of_lt (by omega)
  rw [f]
  have g := Nat.two_pow_add_eq_or_of_lt h2 (bitAt n i)
  rw [Nat.or_comm, Nat.mul_comm (bitAt n i), ← g, Nat.add_comm]
  rcases hb with hb | hb <;> rw [hb] <;> exact Nat.mod_eq_of_lt (by omega)

/-- limb l of five -/
def L5.at (x : L5) : Nat → Nat | 0 => x.a | 1 => x.b | 2 => x.c | 3 => x.d | _ => x.e

theorem bit_mod (y s k : Nat) (h : s < k) : y % 2 ^ k / 2 ^ s % 2 = y / 2 ^ s % 2 := by
  obtain ⟨e, rfl⟩ : ∃ e, k = s + (e + 1) := ⟨k - s - 1, by omega⟩
  rw [Nat.pow_add, Nat.mod_mul_right_div_self, Nat.pow_succ, Nat.mod_mul_left_mod]

theorem limb_of (x : L5) (h : x.lt 2251799813685248) (l : Nat) (hl : l < 5) : x.val / 2 ^ (51 * l) % 2 ^ 51 = x.at l := by
  obtain ⟨a, b, c, d, e⟩ := x
  obtain ⟨h1, h2, h3, h4, h5⟩ := h
  simp only at h1 h2 h3 h4 h5
  match l, hl with
  | 0, _ => simp only [L5.val, L5.at]; omega
  | 1, _ => simp only [L5.val, L5.at]; omega
  | 2, _ => simp only [L5.val, L5.at]; omega
  | 3, _ => simp only [L5.val, L5.at]; omega
  | 4, _ => simp only [L5.val, L5.at]; omega

theorem bit_of_limb (x : L5) (h : x.lt 2251799813685248) (i : Nat) (hi : i < 255) : x.at (i / 51) / 2 ^ (i % 51) % 2 = bitAt x.val i := by
  rw [← limb_of x h (i / 51) (by omega), bit_mod _ _ _ (Nat.mod_lt _ (by omega)), Nat.div_div_eq_div_mul, ← Nat.pow_add]
  unfold bitAt
  congr 3
  omega

/-- the bytes of a number: the lowest 255 bits -/
def bytes255 (n : Nat) : List Nat := (List.range 32).map (fun j => n / 256 ^ j % 256)

theorem byteAt_end (n j : Nat) (h : n < 2 ^ 255) : byteAt n 255 j = n / 256 ^ j % 256 := by
  unfold byteAt; rw [Nat.mod_eq_of_lt h]
end Go.Proofs.Ytpkoniebbkkmjaa
namespace Go.Proofs.Ytpkoniebbkkmjaa

/-- chunk j, of b bits, of the lowest i bits of n -/
def chunk (b n i j : Nat) : Nat := n % 2 ^ i / 2 ^ (b * j) % 2 ^ b

theorem chunk_lt (b n i j : Nat) : chunk b n i j < 2 ^ b := Nat.mod_lt _ (Nat.pow_pos (by omega))
theorem chunk_zero (b n j : Nat) : chunk b n 0 j = 0 := by simp [chunk, Nat.mod_one]

theorem chunk_other (b n i j : Nat) (hb : 0 < b) (h : j ≠ i / b) : chunk b n (i + 1) j = chunk b n i j := by
  unfold chunk
  rw [Nat.mod_pow_succ]
  rcases Nat.lt_or_gt_of_ne h with h | h
  · have hle : (j + 1) * b ≤ i := (Nat.le_div_iff_mul_le hb).1 h
    rw [Nat.succ_mul, Nat.mul_comm] at hle
    obtain ⟨e, he⟩ : ∃ e, i = b * j + (b + e) := ⟨i - b * j - b, by omega⟩
    rw [show (2 : Nat) ^ i * (n / 2 ^ i % 2) = 2 ^ (b * j) * (2 ^ b * (2 ^ e * (n / 2 ^ i % 2))) by
      conv => lhs; lhs; rw [he]
      rw [Nat.pow_add, Nat.pow_add]; simp only [Nat.mul_assoc]]
    rw [Nat.add_mul_div_left _ _ (Nat.pos_of_ne_zero (by simp)), Nat.add_mul_mod_self_left]
  · have hle : i < j * b := (Nat.div_lt_iff_lt_mul hb).1 h
    rw [Nat.mul_comm] at hle
    have h1 : n % 2 ^ i < 2 ^ i := Nat.mod_lt _ (Nat.pos_of_ne_zero (by simp))
    have h2 : 2 ^ (i + 1) ≤ 2 ^ (b * j) := Nat.pow_le_pow_right (by omega) (by omega)
    have h3 : n / 2 ^ i % 2 ≤ 1 := by omega
    have h4 : 2 ^ i * (n / 2 ^ i % 2) ≤ 2 ^ i * 1 := Nat.mul_le_mul_left _ h3
    rw [Nat.pow_succ] at h2
    rw [Nat.div_eq_of_lt (by omega), Nat.div_eq_of_lt (by omega)]

theorem chunk_here (b n i : Nat) (hb : 0 < b) : chunk b n (i + 1) (i / b) = chunk b n i (i / b) ||| (bitAt n i * 2 ^ (i % b)) := by
  have hm := Nat.mod_lt i hb
  have hi : (2 : Nat) ^ i = 2 ^ (b * (i / b)) * 2 ^ (i % b) := by rw [← Nat.pow_add, Nat.div_add_mod]
  have h1 : n % 2 ^ i < 2 ^ i := Nat.mod_lt _ (Nat.pos_of_ne_zero (by simp))
  have h2 : n % 2 ^ i / 2 ^ (b * (i / b)) < 2 ^ (i % b) := by
    rw [Nat.div_lt_iff_lt_mul (Nat.pos_of_ne_zero (by simp)), Nat.mul_comm, ← hi]; exact h1
  have h3 : (2 : Nat) ^ (i % b) * 2 ≤ 2 ^ b := by
    rw [← Nat.pow_succ]; exact Nat.pow_le_pow_right (by omega) (by omega)
  have hb' : bitAt n i = 0 ∨ bitAt n i = 1 := by have := bitAt_lt n i; omega
  have e : n % 2 ^ (i + 1) / 2 ^ (b * (i / b)) = n % 2 ^ i / 2 ^ (b * (i / b)) + 2 ^ (i % b) * bitAt n i := by
    rw [Nat.mod_pow_succ]
    show (n % 2 ^ i + 2 ^ i * bitAt n i) / 2 ^ (b * (i / b)) = _
    conv => lhs; lhs; rhs; rw [hi, Nat.mul_assoc]
    rw [Nat.add_mul_div_left _ _ (Nat.pos_of_ne_zero (by simp))]
  unfold chunk
  rw [e]
  have f : n % 2 ^ i / 2 ^ (b * (i / b)) % 2 ^ b = n % 2 ^ i / 2 ^ (b * (i / b)) := Nat.mod_eq_of_lt (by omega)
  rw [f]
  have g := Nat.two_pow_add_eq_or_of_lt h2 (bitAt n i)
  rw [Nat.or_comm, Nat.mul_comm (bitAt n i), ← g, Nat.add_comm]
  rcases hb' with hb' | hb' <;> rw [hb'] <;> exact Nat.mod_eq_of_lt (by omega)

/-- the five limbs of a number -/
def L5.of (n : Nat) : L5 := ⟨n % 2251799813685248, n / 2251799813685248 % 2251799813685248, n / 5070602400912917605986812821504 % 2251799813685248, n / 11417981541647679048466287755595961091061972992 % 2251799813685248, n / 25711008708143844408671393477458601640355247900524685364822016 % 2251799813685248⟩
theorem of_lt (n : Nat) : (L5.of n).lt 2251799813685248 := ⟨Nat.mod_lt _ (by omega), Nat.mod_lt _ (by omega), Nat.mod_lt _ (by omega), Nat.mod_lt _ (by omega), Nat.mod_lt _ (by omega)⟩
theorem of_val (n : Nat) : (L5.of n).val = n % 57896044618658097711785492504343953926634992332820282019728792003956564819968 := by
  simp only [L5.of, L5.val]; omega
theorem of_chunks (n : Nat) : L5.of n = ⟨chunk 51 n 255 0, chunk 51 n 255 1, chunk 51 n 255 2, chunk 51 n 255 3, chunk 51 n 255 4⟩ := by
  simp only [L5.of, chunk, Nat.reduceMul, Nat.reducePow, Nat.div_one, L5.mk.injEq]
  refine ⟨?_, ?_, ?_, ?_, ?_⟩ <;> omega

/-- the number that bytes are, the lowest first -/
def leNat : List UInt8 → Nat | [] => 0 | c :: l => c.toNat + 256 * leNat l
theorem leNat_lt : ∀ l : List UInt8, leNat l < 256 ^ l.length
  | [] => by simp [leNat]
  | c :: l => by
    have := leNat_lt l
    have hc := c.toNat_lt
    simp only [leNat, List.length_cons, Nat.pow_succ]
    omega
theorem leNat_byte : ∀ (l : List UInt8) (j : Nat), leNat l / 256 ^ j % 256 = (l.getD j 0).toNat
  | [], j => by simp [leNat]
  | c :: l, 0 => by
    have hc := c.toNat_lt
    simp only [leNat, Nat.pow_zero, Nat.div_one, List.getD_cons_zero]
    omega
  | c :: l, j + 1 => by
    have hc := c.toNat_lt
    rw [List.getD_cons_succ, ← leNat_byte l j, Nat.pow_succ', ← Nat.div_div_eq_div_mul]
    congr 2
    simp only [leNat]
    omega
theorem leNat_bit (l : List UInt8) (k : Nat) : (l.getD (k / 8) 0).toNat / 2 ^ (k % 8) % 2 = bitAt (leNat l) k := by
  rw [← leNat_byte, show (256 : Nat) = 2 ^ 8 from rfl, bit_mod _ _ _ (Nat.mod_lt _ (by omega)), Nat.div_div_eq_div_mul, ← Nat.pow_mul, ← Nat.pow_add]
  unfold bitAt
  congr 3
  omega

theorem bytes_inj (n m k : Nat) (h : ∀ j, j < k → n / 256 ^ j % 256 = m / 256 ^ j % 256) : n % 256 ^ k = m % 256 ^ k := by
  induction k with
  | zero => simp [Nat.mod_one]
  | succ k ih =>
    rw [Nat.mod_pow_succ, Nat.mod_pow_succ, ih fun j hj => h j (by omega), h k (by omega)]

theorem get_eq (l : List UInt8) (hl : l.length = 32) (k : Nat) (hk : k = 32) :
    decide (∀ i, i < k → byteAt (leNat l % 57896044618658097711785492504343953926634992332820282019728792003956564819968 % P25) 255 i = (l.getD i 0).toNat) = decide (leNat l < P25) := by
  subst hk
  have hlt := leNat_lt l
  rw [hl] at hlt
  have hp : P25 < 57896044618658097711785492504343953926634992332820282019728792003956564819968 := by unfold P25; omega
  have hm : leNat l % 57896044618658097711785492504343953926634992332820282019728792003956564819968 % P25 < P25 := Nat.mod_lt _ (by unfold P25; omega)
  rw [Bool.eq_iff_iff]
  simp only [decide_eq_true_eq]
  constructor
  · intro h
    have := bytes_inj (leNat l % 57896044618658097711785492504343953926634992332820282019728792003956564819968 % P25) (leNat l) 32 fun j hj => by
      have := h j hj
      rw [byteAt_end _ _ (by omega)] at this
      rw [this, leNat_byte]
    rw [Nat.mod_eq_of_lt (by omega), Nat.mod_eq_of_lt hlt] at this
    omega
  · intro h i _
    rw [Nat.mod_eq_of_lt (show leNat l < 57896044618658097711785492504343953926634992332820282019728792003956564819968 by omega), Nat.mod_eq_of_lt h, byteAt_end _ _ (by omega), leNat_byte]
end Go.Proofs.Ytpkoniebbkkmjaa
namespace Go.Proofs.Ytpkoniebbkkmjaa
open Go.RowKit

/-- what the frame tells of a slice of integers that came in -/
def IsRow (k : IntKind) (w : World) (a : Option Addr) (len cap : Nat) (zs : List Int) : Prop :=
  (a = none ∧ len = 0 ∧ cap = 0 ∧ zs = []) ∨
  ∃ x, a = some x ∧ len ≤ cap ∧ cap ≤ maxLen ∧ zs.length = cap ∧ (∀ i, i < zs.length → w.cell? (x.add i) = some (.int k (zs.getD i 0))) ∧ ∀ n ∈ zs, (Lit.int k n).wf = true

/-- A slice of bytes that reads as the list l. -/
def Sl (w : World) (a : Option Addr) (len cap : Nat) (l : List UInt8) : Prop :=
  len = l.length ∧ len ≤ cap ∧ cap ≤ maxLen ∧ (a = none → cap = 0) ∧ (len = 0 ∨ ∃ b o, a = some ⟨b, o, none⟩ ∧ ∀ i, i < len → w.cell? ⟨b, o + i, none⟩ = some (.int .u8 ((l.getD i 0).toNat : Int)))

theorem Sl.mk' {w : World} {a : Option Addr} {len cap : Nat} {l : List UInt8} (h1 : len = l.length) (h2 : len ≤ cap) (h3 : cap ≤ maxLen) (h5 : a = none → cap = 0)
    (h4 : len = 0 ∨ ∃ b o, a = some ⟨b, o, none⟩ ∧ ∀ i, i < len → w.cell? ⟨b, o + i, none⟩ = some (.int .u8 ((l.getD i 0).toNat : Int))) : Sl w a len cap l := ⟨h1, h2, h3, h5, h4⟩

theorem Sl.below {w w' : World} {a : Option Addr} {len cap : Nat} {l : List UInt8} {B : Nat} (h : Sl w a len cap l) (hb : Below B w w')
    (hB : ∀ b o, len ≠ 0 → a = some ⟨b, o, none⟩ → b < B) : Sl w' a len cap l := by
  obtain ⟨h1, h2, h3, h5, h4⟩ := h
  refine ⟨h1, h2, h3, h5, ?_⟩
  rcases h4 with h4 | ⟨b, o, rfl, h4⟩
  · exact .inl h4
  · by_cases h0 : len = 0
    · exact .inl h0
    · exact .inr ⟨b, o, rfl, fun i hi => (hb.cell (hB b o h0 rfl)).trans (h4 i hi)⟩

theorem cell_lt {w : World} {b o : Nat} {v : Value} (h : w.cell? ⟨b, o, none⟩ = some v) : b < w.heap.size := by
  rcases Nat.lt_or_ge b w.heap.size with h' | h'
  · exact h'
  · simp [World.cell?, Array.getElem?_eq_none h'] at h

theorem Sl.lt {w : World} {a : Option Addr} {len cap : Nat} {l : List UInt8} (h : Sl w a len cap l) : ∀ b o, len ≠ 0 → a = some ⟨b, o, none⟩ → b < w.heap.size := by
  obtain ⟨h1, h2, h3, h5, h4⟩ := h
  intro b o h0 ha
  rcases h4 with h4 | ⟨b', o', rfl, h4⟩
  · exact absurd h4 h0
  · obtain ⟨rfl, rfl⟩ : b' = b ∧ o' = o := by simpa using ha
    exact cell_lt (h4 0 (by omega))

/-- What lay in old memory reads as before. -/
theorem Sl.after {w w' : World} {a : Option Addr} {len cap : Nat} {l : List UInt8} (h : Sl w a len cap l) (hb : Below w.heap.size w w') : Sl w' a len cap l := h.below hb h.lt

theorem Sl.drop {w : World} {b o len cap : Nat} {l : List UInt8} (n : Nat) (h : Sl w (some ⟨b, o, none⟩) len cap l) (hn : n ≤ len) :
    Sl w (if cap = n then some ⟨b, o, none⟩ else some ⟨b, o + n, none⟩) (len - n) (cap - n) (l.drop n) := by
  obtain ⟨h1, h2, h3, h5, h4⟩ := h
  refine ⟨by simp [h1], by omega, by omega, (by intro h; split at h <;> cases h), ?_⟩
  by_cases h0 : len - n = 0
  · exact .inl h0
  · right
    rcases h4 with h4 | ⟨b', o', e, h4⟩
    · omega
    · obtain ⟨rfl, rfl⟩ : b = b' ∧ o = o' := by simpa using e
      refine ⟨b, o + n, by rw [if_neg (by omega)], fun i hi => ?_⟩
      rw [Nat.add_assoc, h4 (n + i) (by omega)]
      simp [List.getD_eq_getElem?_getD, List.getElem?_drop]

theorem Sl.take {w : World} {a : Option Addr} {len cap : Nat} {l : List UInt8} (n : Nat) (h : Sl w a len cap l) (hn : n ≤ len) :
    Sl w a n cap (l.take n) := by
  obtain ⟨h1, h2, h3, h5, h4⟩ := h
  refine ⟨by simp; omega, by omega, h3, h5, ?_⟩
  by_cases h0 : n = 0
  · exact .inl h0
  · right
    rcases h4 with h4 | ⟨b', o', e, h4⟩
    · omega
    · refine ⟨b', o', e, fun i hi => ?_⟩
      rw [h4 i (by omega)]
      simp [List.getD_eq_getElem?_getD, hi]

/-- What the frame tells of a slice of bytes is that it reads as a list. -/
theorem IsRow.sl {w : World} {a : Option Addr} {len cap : Nat} {zs : List Int} (h : IsRow .u8 w a len cap zs) : ∃ l, Sl w a len cap l := by
  rcases h with ⟨rfl, rfl, rfl, rfl⟩ | ⟨x, rfl, h1, h2, h3, h4, h5⟩
  · exact ⟨[], rfl, Nat.le_refl _, Nat.zero_le _, fun _ => rfl, .inl rfl⟩
  · refine ⟨(zs.take len).map fun n => UInt8.ofNat n.toNat, by simp; omega, h1, h2, (fun h => by cases h), ?_⟩
    by_cases h0 : len = 0
    · exact .inl h0
    · right
      obtain ⟨b, o, spot⟩ := x
      have hc := h4 0 (by omega)
      have hspot : spot = none := by simpa [Addr.add] using World.cell?_spot hc
      subst hspot
      refine ⟨b, o, rfl, fun i hi => ?_⟩
      have hc := h4 i (by omega)
      replace hc := (congrArg w.cell? (Addr.add_lit b o i)).symm.trans hc
      rw [hc]
      have hlt : i < zs.length := by omega
      obtain ⟨z, hz⟩ : ∃ z, z = zs.getD i 0 := ⟨_, rfl⟩
      have hwf := h5 z (by rw [hz]; simp [List.getD_eq_getElem?_getD, hlt])
      rw [← hz]
      have hbd : 0 ≤ z ∧ z < 256 := by
        simp [Lit.wf, IntKind.min, IntKind.max, IntKind.bits, IntKind.signed] at hwf
        omega
      have e : ((zs.take len).map fun n => UInt8.ofNat n.toNat).getD i 0 = UInt8.ofNat z.toNat := by
        rw [hz]
        simp [List.getD_eq_getElem?_getD, hi, hlt]
      rw [e]
      congr 2
      simp
      omega

/-- A row that the call itself owns, as a slice that reads. -/
theorem Sl.ofOwns {w : World} {B e n : Nat} {v : Value} {l : List UInt8} (h : w.ownsRow B e 1 v n (Lib.byteCells l)) : ∃ a cap, v = .slice a n cap ∧ Sl w a n cap l := by
  have hl : l.length = n := by have := h.1; simpa [Lib.byteCells] using this
  rcases h.2 with ⟨rfl, rfl⟩ | ⟨g, cap, cur, rfl, hg, hb, hn, hm, hs, ht⟩
  · exact ⟨none, 0, rfl, hl.symm, Nat.le_refl _, Nat.zero_le _, fun _ => rfl, .inl rfl⟩
  · refine ⟨some ⟨g, 0, none⟩, cap, rfl, hl.symm, hn, hm, (fun h => by cases h), .inr ⟨g, 0, rfl, fun i hi => ?_⟩⟩
    have := h.cellAt i (by simpa using hi)
    rw [Nat.zero_add, this]
    simp [Lib.byteCells, List.getD_eq_getElem?_getD, show i < l.length by omega]

theorem byteCells_append (a b : List UInt8) : Lib.byteCells a ++ Lib.byteCells b = Lib.byteCells (a ++ b) := by simp [Lib.byteCells]
theorem byteCells_length (a : List UInt8) : (Lib.byteCells a).length = a.length := by simp [Lib.byteCells]

/-- 'append(out, x...)': out the call's own, x a slice of bytes that reads as l2, nil or empty too. -/
theorem wp_append_sl {P : Program} {w : World} {o : Oper} {a : Act} {K : Act → World → Prop} {Q : Exit → Act → World → Prop} (s x : Operand) (t : TypeId)
    (ho : o.op = .call { callee := .builtin .append, args := #[s, x], argTypes := #[t, t] })
    (base : Nat) (e : TypeId) (i : TypeInfo) (ht : P.underlying t = some (.slice e)) (hi : P.info? e = some i) (hz : i.zero = some (.int .u8 0)) (hsize : i.size = 1) (hby : i.bytes = 1)
    (v : Value) (n : Nat) (l : List UInt8) (hs : a.eval s = v) (hown : w.ownsRow base e 1 v n (Lib.byteCells l))
    (ax : Option Addr) (m c : Nat) (l2 : List UInt8) (hx : a.eval x = .slice ax m c) (hsl : Sl w ax m c l2)
    (hbytes : n + m ≤ 140737488355328) (hbase : base ≤ w.heap.size)
    (h : ∀ v' w', w'.ownsRow base e 1 v' (n + m) (Lib.byteCells (l ++ l2)) → w.grownBy w' v.ownBlock → K (a.put o.dst v') w') : o.wp P a w K Q := by
  obtain ⟨h1, h2, h3, h5, h4⟩ := hsl
  cases ax with
  | none =>
    have hc := h5 rfl
    subst hc
    obtain rfl : m = 0 := by omega
    have hl2 : l2 = [] := List.eq_nil_of_length_eq_zero h1.symm
    subst hl2
    have hrun := run_append_owned_none (P := P) (w := w) base t o.type e i 1 ht hi v n _ hown
    unfold Oper.wp
    simp [execOp, ho, resolve, invoke, builtin, hs, hx, hrun, Result.andThen]
    exact h v w (by simpa using hown) (World.grownBy.refl w _)
  | some ad =>
    refine wp_append_own w s x t ho base e i (.int .u8 0) 1 1 ht hi hz hsize hby rfl (by decide) v n _ hs hown ad m c (Lib.byteCells l2) hx (by simp [Lib.byteCells, h1]) ?_ ?_ (by unfold maxLen; omega) (by omega) hbase ?_
    · intro j u hj
      rcases h4 with h4 | ⟨b, o', e', h4⟩
      · have hl2 : l2 = [] := List.eq_nil_of_length_eq_zero (by omega)
        subst hl2
        simp [Lib.byteCells] at hj
      · obtain rfl := Option.some.inj e'
        have hlt : j < l2.length := by
          rcases Nat.lt_or_ge j l2.length with h' | h'
          · exact h'
          · simp [Lib.byteCells, List.getElem?_eq_none h'] at hj
        simp [Lib.byteCells, hlt] at hj
        rw [Addr.add_lit, h4 j (by omega), ← hj]
        simp [List.getD_eq_getElem?_getD, hlt]
    · intro u hu
      obtain ⟨_, _, rfl⟩ := List.mem_map.1 hu
      rfl
    · intro v' w' ho' hg' _
      exact h v' w' (by rw [← byteCells_append]; exact ho') hg'

theorem wpList_append_sl {P : Program} {w : World} {ops : Array Oper} {rest : List Oper} {o : Oper} {a : Act} {Q : Exit → Act → World → Prop} (hgd : o.guard = none) (s x : Operand) (t : TypeId)
    (ho : o.op = .call { callee := .builtin .append, args := #[s, x], argTypes := #[t, t] })
    (base : Nat) (e : TypeId) (i : TypeInfo) (ht : P.underlying t = some (.slice e)) (hi : P.info? e = some i) (hz : i.zero = some (.int .u8 0)) (hsize : i.size = 1) (hby : i.bytes = 1)
    (v : Value) (n : Nat) (l : List UInt8) (hs : a.eval s = v) (hown : w.ownsRow base e 1 v n (Lib.byteCells l))
    (ax : Option Addr) (m c : Nat) (l2 : List UInt8) (hx : a.eval x = .slice ax m c) (hsl : Sl w ax m c l2)
    (hbytes : n + m ≤ 140737488355328) (hbase : base ≤ w.heap.size)
    (h : ∀ v' w', w'.ownsRow base e 1 v' (n + m) (Lib.byteCells (l ++ l2)) → w.grownBy w' v.ownBlock → wpList P ops Q rest (a.put o.dst v') w') : wpList P ops Q (o :: rest) a w :=
  wpList_plain hgd fun _ hK => wp_append_sl s x t ho base e i ht hi hz hsize hby v n l hs hown ax m c l2 hx hsl hbytes hbase fun v' w' h2 h3 => hK _ _ (h v' w' h2 h3)

/-- the same as a step of a region that draws its order -/
theorem step_append_sl {P : Program} {w : World} {ops : Array Oper} {o : Oper} {a : Act} {K : Act → World → Prop} {Q : Exit → Act → World → Prop} {E : Prop} (hgd : o.guard = none) (s x : Operand) (t : TypeId)
    (ho : o.op = .call { callee := .builtin .append, args := #[s, x], argTypes := #[t, t] })
    (base : Nat) (e : TypeId) (i : TypeInfo) (ht : P.underlying t = some (.slice e)) (hi : P.info? e = some i) (hz : i.zero = some (.int .u8 0)) (hsize : i.size = 1) (hby : i.bytes = 1)
    (v : Value) (n : Nat) (l : List UInt8) (hs : a.eval s = v) (hown : w.ownsRow base e 1 v n (Lib.byteCells l))
    (ax : Option Addr) (m c : Nat) (l2 : List UInt8) (hx : a.eval x = .slice ax m c) (hsl : Sl w ax m c l2)
    (hbytes : n + m ≤ 140737488355328) (hbase : base ≤ w.heap.size)
    (h : ∀ v' w', w'.ownsRow base e 1 v' (n + m) (Lib.byteCells (l ++ l2)) → w.grownBy w' v.ownBlock → K (a.put o.dst v') w') :
    if Region.wanted o (yielded ops a.tmps) = true then Oper.wp P o a w K Q else E := by
  have hw : Region.wanted o (yielded ops a.tmps) = true := by simp [Region.wanted, hgd]
  rw [if_pos hw]
  exact wp_append_sl s x t ho base e i ht hi hz hsize hby v n l hs hown ax m c l2 hx hsl hbytes hbase h
end Go.Proofs.Ytpkoniebbkkmjaa
namespace Go.Proofs.Ytpkoniebbkkmjaa
open Go.RowKit

theorem foldl_push (l : List UInt8) : ∀ s : ByteArray, (l.map fun c => (c.toNat : Int)).foldl (fun r n => r.push (UInt8.ofNat n.toNat)) s = ⟨s.data ++ l.toArray⟩ := by
  induction l with
  | nil => intro s; simp
  | cons a t ih =>
    intro s
    simp only [List.map_cons, List.foldl_cons]
    rw [ih]
    apply ByteArray.ext
    show (s.data.push (UInt8.ofNat ((a.toNat : Int).toNat))) ++ t.toArray = s.data ++ (a :: t).toArray
    simp [UInt8.ofNat_toNat]

/-- 'string(b)' -/
theorem conv_sl {w : World} {a : Option Addr} {len cap : Nat} {l : List UInt8} (h : Sl w a len cap l) :
    (convert 22 9 (.slice a len cap)).run Try.prog w = .ok (.string ⟨l.toArray⟩) w := by
  rw [run_convert_bytes_string w 22 9 5 a len cap Try.underlying22 Try.underlying5 Try.underlying9]
  obtain ⟨h1, h2, h3, h5, h4⟩ := h
  cases a with
  | none =>
    have hc := h5 rfl
    have : l = [] := List.eq_nil_of_length_eq_zero (by omega)
    subst this
    rfl
  | some ad =>
    rw [run_bytesToString w ad len cap (l.map fun c => (c.toNat : Int))]
    · rw [foldl_push]; simp [ByteArray.empty, ByteArray.emptyWithCapacity]; rfl
    · have hh := run_loadCells_list (P := Try.prog) (w := w) ad (l.map fun c => Value.int .u8 (c.toNat : Int)) ?_
      · rw [show ((l.map fun c => (c.toNat : Int)).map (Value.int .u8)) = l.map fun c => Value.int .u8 (c.toNat : Int) by simp]
        rw [← hh, h1]; simp
      · intro j v hj
        rcases h4 with h4 | ⟨b, o, e, h4⟩
        · have : l = [] := List.eq_nil_of_length_eq_zero (by omega)
          subst this
          simp at hj
        · obtain rfl := Option.some.inj e
          have hlt : j < l.length := by
            rcases Nat.lt_or_ge j l.length with h' | h'
            · exact h'
            · simp [List.getElem?_eq_none h'] at hj
          simp [hlt] at hj
          rw [Addr.add_lit, h4 j (by omega), ← hj]
          simp [List.getD_eq_getElem?_getD, hlt]

/-- A block of bytes, known whole: its first cells are the list; its row may be written. -/
def Blk (w : World) (g : Nat) (l : List UInt8) : Prop :=
  ∃ cur fr, w.heap[g]? = some (.cells cur 5 fr) ∧ (fr = (0, 0) ∨ fr = (cur.size, cur.size + 1)) ∧ l.length ≤ cur.size ∧ cur.size ≤ maxLen ∧ ∀ j, j < l.length → cur[j]? = some (.int .u8 ((l.getD j 0).toNat : Int))

theorem Blk.cell {w : World} {g : Nat} {l : List UInt8} (h : Blk w g l) (j : Nat) (hj : j < l.length) : w.cell? ⟨g, j, none⟩ = some (.int .u8 ((l.getD j 0).toNat : Int)) := by
  obtain ⟨cur, fr, hb, _, _, _, hc⟩ := h
  simp only [World.cell?, hb]
  simpa using hc j hj

theorem Blk.frozen {w : World} {g : Nat} {l : List UInt8} (h : Blk w g l) (j : Nat) (hj : j < l.length) : w.frozen? ⟨g, j, none⟩ = false := by
  obtain ⟨cur, fr, hb, hf, hl, _, hc⟩ := h
  simp only [World.frozen?, hb]
  rcases hf with rfl | rfl <;> simp <;> omega

theorem Blk.lt {w : World} {g : Nat} {l : List UInt8} (h : Blk w g l) : g < w.heap.size := by
  obtain ⟨cur, fr, hb, _⟩ := h
  rcases Nat.lt_or_ge g w.heap.size with h' | h'
  · exact h'
  · simp [Array.getElem?_eq_none h'] at hb

theorem Blk.set {w : World} {g : Nat} {l : List UInt8} (h : Blk w g l) (j : Nat) (c : UInt8) (hj : j < l.length) : Blk (w.setCell ⟨g, j, none⟩ (.int .u8 (c.toNat : Int))) g (l.set j c) := by
  obtain ⟨cur, fr, hb, hf, hl, hm, hc⟩ := h
  refine ⟨cur.setIfInBounds j (.int .u8 (c.toNat : Int)), fr, ?_, by simpa using hf, by simpa using hl, by simpa using hm, ?_⟩
  · simp [World.setCell, Array.getElem?_modify, hb]
  · intro i hi
    simp only [List.length_set] at hi
    by_cases e : j = i
    · subst e
      simp [List.getD_eq_getElem?_getD, hi, show j < cur.size by omega]
    · have := hc i hi
      simp only [List.getD_eq_getElem?_getD] at this ⊢
      rw [Array.getElem?_setIfInBounds_ne e, this, List.getElem?_set_ne e]

theorem Blk.below {w w' : World} {g : Nat} {l : List UInt8} (h : Blk w g l) {B : Nat} (hb : Below B w w') (hg : g < B) : Blk w' g l := by
  obtain ⟨cur, fr, h1, h2⟩ := h
  exact ⟨cur, fr, (hb.block g hg).trans h1, h2⟩

theorem Blk.sl {w : World} {g : Nat} {l : List UInt8} (h : Blk w g l) (cap : Nat) (h1 : l.length ≤ cap) (h2 : cap ≤ maxLen) : Sl w (some ⟨g, 0, none⟩) l.length cap l := by
  refine ⟨rfl, h1, h2, (fun h => by cases h), .inr ⟨g, 0, rfl, fun i hi => ?_⟩⟩
  rw [Nat.zero_add]
  exact h.cell i hi

/-- '[]byte(s)' -/
theorem conv_str (w : World) (s : ByteArray) (hs : s.size ≤ 140737488355328) : ∃ c w', (convert 9 22 (.string s)).run Try.prog w = .ok (.slice (some ⟨w.heap.size, 0, none⟩) s.size c) w' ∧
    Blk w' w.heap.size s.data.toList ∧ s.size ≤ c ∧ c ≤ maxLen ∧ Below w.heap.size w w' := by
  refine ⟨_, _, Lib.run_convert_string_bytes w 9 22 5 s Try.underlying9 Try.underlying22 Try.underlying5, ?_, grownCap_ge _ _ _ _, grownCap_le_maxLen _ _ _ _ (by unfold maxLen; omega), ?_⟩
  · have hn := Lib.bytesWorld_at_new w 5 s
    have hsz : (Lib.bytesCells w 5 s).size = grownCap w s.size 0 5 := by
      have := grownCap_ge w s.size 0 5
      simp [Lib.bytesCells]
      have : s.data.size = s.size := rfl
      omega
    refine ⟨_, _, hn, .inr rfl, ?_, ?_, ?_⟩
    · rw [hsz]; simpa using grownCap_ge w s.size 0 5
    · rw [hsz]; exact grownCap_le_maxLen _ _ _ _ (by unfold maxLen; omega)
    · intro j hj
      have hj2 : j < s.size := by simpa using hj
      simp [Lib.bytesCells, Array.getElem?_append, hj2, List.getD_eq_getElem?_getD]
  · refine ⟨?_, ?_, ?_, ?_, ?_⟩
    · simp [Lib.bytesWorld, World.freeze, World.alloc, World.drew, -World.alloc_eq, -World.drew_eq]
    · simp [Lib.bytesWorld, World.freeze, World.alloc, World.drew, -World.alloc_eq, -World.drew_eq]
    · simp [Lib.bytesWorld, World.freeze, World.alloc, World.drew, -World.alloc_eq, -World.drew_eq]
    · simp [Lib.bytesWorld, World.freeze, World.alloc, World.drew, -World.alloc_eq, -World.drew_eq]
    · intro k hk; exact Lib.bytesWorld_at_old w 5 s k hk
end Go.Proofs.Ytpkoniebbkkmjaa
namespace Go.Proofs.Ytpkoniebbkkmjaa
open Go.RowKit

theorem infoU8 : (Try.prog.info? 5).map (fun i => (i.zero, i.size, i.bytes)) = some (some (.int .u8 0), 1, 1) := by kernel_rfl

theorem slTwo (w : World) (g : Nat) (c d : UInt8) (h : w.cell? ⟨g, 0, none⟩ = some (.int .u8 (c.toNat : Int))) (h' : w.cell? ⟨g, 1, none⟩ = some (.int .u8 (d.toNat : Int))) : Sl w (some ⟨g, 0, none⟩) 2 2 [c, d] := by
  refine ⟨rfl, Nat.le_refl _, by unfold maxLen; omega, (fun h => by cases h), .inr ⟨g, 0, rfl, fun i hi => ?_⟩⟩
  match i, hi with
  | 0, _ => simpa using h
  | 1, _ => simpa using h'
theorem cellTwo (w : World) (u v : Value) (g : Nat) (hg : g = w.heap.size) : (w.alloc (.cells #[u, v] 5)).cell? ⟨g, 0, none⟩ = some u ∧ (w.alloc (.cells #[u, v] 5)).cell? ⟨g, 1, none⟩ = some v := by
  subst hg
  constructor <;> (rw [World.cell?_alloc_mark]; rfl)
end Go.Proofs.Ytpkoniebbkkmjaa

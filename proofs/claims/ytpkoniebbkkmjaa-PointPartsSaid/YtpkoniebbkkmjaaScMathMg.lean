/- scalar: words, bits, bytes, digits: plain numbers. -/
import Derived.Test.YtpkoniebbkkmjaaPnG2
namespace Go.Proofs.Ytpkoniebbkkmjaa

def LL : Nat := 7237005577332262213973186563042994240857116359379907606001950938285454250989
def W256 : Nat := 115792089237316195423570985008687907853269984665640564039457584007913129639936
def wd (n i : Nat) : Nat := n / 18446744073709551616 ^ i % 18446744073709551616
theorem wd_lt (n i : Nat) : wd n i < 18446744073709551616 := Nat.mod_lt _ (by omega)
/-- is something borrowed from word k of A less B? -/
def bor (A B k : Nat) : Nat := if A % 18446744073709551616 ^ k < B % 18446744073709551616 ^ k then 1 else 0
theorem bor_zero (A B : Nat) : bor A B 0 = 0 := by simp [bor, Nat.mod_one]
theorem bor_le (A B k : Nat) : bor A B k ≤ 1 := by unfold bor; split <;> omega
theorem bor_four (A B : Nat) (hA : A < W256) (hB : B < W256) : (bor A B 4 : Nat) = if A < B then 1 else 0 := by
  unfold W256 at *
  unfold bor
  simp only [Nat.reducePow]
  rw [Nat.mod_eq_of_lt hA, Nat.mod_eq_of_lt hB]
theorem sub_word (A B k : Nat) (hk : k < 4) (hB : B < W256) :
    wd A k + 18446744073709551616 * bor A B (k + 1) = wd B k + bor A B k + wd (A + W256 - B) k := by
  unfold wd bor
  unfold W256 at *
  have : k = 0 ∨ k = 1 ∨ k = 2 ∨ k = 3 := by omega
  rcases this with rfl | rfl | rfl | rfl <;> simp only [Nat.reducePow, Nat.reduceAdd] <;> split <;> split <;> omega
/-- the bit that comes into word k -/
def carW (R c k : Nat) : Nat := (2 * (R % 18446744073709551616 ^ k) + c) / 18446744073709551616 ^ k
theorem carW_zero (R c : Nat) : carW R c 0 = c := by simp [carW, Nat.mod_one]
theorem carW_lt (R c k : Nat) (h : c < 2) (hk : k < 5) : carW R c k < 2 := by
  unfold carW
  have : k = 0 ∨ k = 1 ∨ k = 2 ∨ k = 3 ∨ k = 4 := by omega
  rcases this with rfl | rfl | rfl | rfl | rfl <;> simp only [Nat.reducePow] <;> omega
theorem carW_next (R c k : Nat) (h : c < 2) (hk : k < 4) : wd R k / 9223372036854775808 = carW R c (k + 1) := by
  unfold carW wd
  have : k = 0 ∨ k = 1 ∨ k = 2 ∨ k = 3 := by omega
  rcases this with rfl | rfl | rfl | rfl <;> simp only [Nat.reducePow, Nat.reduceAdd] <;> omega
theorem shl_word (R c k : Nat) (h : c < 2) (hk : k < 4) : (2 * wd R k) % 18446744073709551616 + carW R c k = wd (2 * R + c) k := by
  unfold carW wd
  have : k = 0 ∨ k = 1 ∨ k = 2 ∨ k = 3 := by omega
  rcases this with rfl | rfl | rfl | rfl <;> simp only [Nat.reducePow] <;> omega
theorem step_mod (R c L : Nat) (h : R < L) (hc : c < 2) : (if 2 * R + c < L then 2 * R + c else 2 * R + c - L) = (2 * R + c) % L := by
  split
  · rw [Nat.mod_eq_of_lt (by omega)]
  · rw [Nat.mod_eq_sub_mod (by omega), Nat.mod_eq_of_lt (by omega)]
theorem wd_mod (n k : Nat) (hk : k < 4) : wd (n + W256) k = wd n k := by
  unfold wd W256
  have : k = 0 ∨ k = 1 ∨ k = 2 ∨ k = 3 := by omega
  rcases this with rfl | rfl | rfl | rfl <;> simp only [Nat.reducePow] <;> omega
theorem put_byte (n i : Nat) : wd n (i / 8) / 2 ^ (8 * (i % 8)) % 256 = n / 256 ^ i % 256 := by
  unfold wd
  have e1 : (18446744073709551616 : Nat) = 2 ^ (8 * (i % 8)) * 2 ^ (64 - 8 * (i % 8)) := by
    rw [← Nat.pow_add, show 8 * (i % 8) + (64 - 8 * (i % 8)) = 64 by omega]
  have e2 : n / 18446744073709551616 ^ (i / 8) % 18446744073709551616 / 2 ^ (8 * (i % 8)) = n / 18446744073709551616 ^ (i / 8) / 2 ^ (8 * (i % 8)) % 2 ^ (64 - 8 * (i % 8)) := by
    generalize n / 18446744073709551616 ^ (i / 8) = m
    rw [e1, Nat.mod_mul_right_div_self]
  rw [e2, Nat.mod_mod_of_dvd, Nat.div_div_eq_div_mul]
  · congr 2
    rw [show (18446744073709551616 : Nat) = 2 ^ 64 by rfl, show (256 : Nat) = 2 ^ 8 by rfl, ← Nat.pow_mul, ← Nat.pow_mul, ← Nat.pow_add]
    congr 1; omega
  · rw [show (256 : Nat) = 2 ^ 8 by rfl]
    exact Nat.pow_dvd_pow 2 (by omega)
/-- what is to come, bit by bit -/
theorem bit_step (W A c i L : Nat) (hi : i < W) : (2 * ((A * 2 ^ i + c / 2 ^ (W - i)) % L) + c / 2 ^ (W - 1 - i) % 2) % L = (A * 2 ^ (i + 1) + c / 2 ^ (W - (i + 1))) % L := by
  rw [Nat.add_mod, Nat.mul_mod, Nat.mod_mod, ← Nat.mul_mod, ← Nat.add_mod]
  congr 1
  have : c / 2 ^ (W - i) = c / 2 ^ (W - 1 - i) / 2 := by
    rw [Nat.div_div_eq_div_mul, ← Nat.pow_succ]; congr 2; omega
  rw [this, show W - (i + 1) = W - 1 - i by omega, Nat.pow_succ]
  have h := Nat.div_add_mod (c / 2 ^ (W - 1 - i)) 2
  have e : A * (2 ^ i * 2) = 2 * (A * 2 ^ i) := by rw [Nat.mul_comm (2 ^ i) 2]; simp only [Nat.mul_left_comm]
  rw [Nat.mul_add, e]
  omega
theorem byte_end (A c L : Nat) : (A * 2 ^ 8 + c / 2 ^ (8 - 8)) % L = (256 * A + c) % L := by simp [Nat.mul_comm]
theorem byte_start (A c L : Nat) (hc : c < 256) (hA : A < L) : (A * 2 ^ 0 + c / 2 ^ (8 - 0)) % L = A := by
  rw [Nat.div_eq_of_lt (by omega)]; simp [Nat.mod_eq_of_lt hA]
theorem digit_end (A c L : Nat) : (A * 2 ^ 16 + c / 2 ^ (16 - 16)) % L = (65536 * A + c) % L := by simp [Nat.mul_comm]
theorem digit_start (A c L : Nat) (hc : c < 65536) (hA : A < L) : (A * 2 ^ 0 + c / 2 ^ (16 - 0)) % L = A := by
  rw [Nat.div_eq_of_lt (by omega)]; simp [Nat.mod_eq_of_lt hA]
theorem mod_step (a c L M : Nat) : (M * (a % L) + c) % L = (M * a + c) % L := by
  rw [Nat.add_mod, Nat.mul_mod, Nat.mod_mod, ← Nat.mul_mod, ← Nat.add_mod]

/-! bytes -/
def bval (f : Nat → Nat) : Nat → Nat | 0 => 0 | n + 1 => bval f n + f n * 256 ^ n
theorem bval_congr {f g : Nat → Nat} : ∀ n, (∀ j, j < n → f j = g j) → bval f n = bval g n
  | 0, _ => rfl
  | n + 1, h => by rw [bval, bval, bval_congr n fun j hj => h j (by omega), h n (by omega)]
theorem bval_upd (f : Nat → Nat) (i v : Nat) : ∀ n, (i < n → bval (upd f i v) n + f i * 256 ^ i = bval f n + v * 256 ^ i) ∧ (n ≤ i → bval (upd f i v) n = bval f n)
  | 0 => ⟨fun h => by omega, fun _ => rfl⟩
  | n + 1 => by
    obtain ⟨h1, h2⟩ := bval_upd f i v n
    refine ⟨fun h => ?_, fun h => ?_⟩
    · simp only [bval]
      by_cases e : n = i
      · subst e
        rw [h2 (Nat.le_refl _)]
        simp only [upd, if_true]; omega
      · have := h1 (by omega)
        simp only [upd, if_neg e]
        unfold upd at this
        omega
    · simp only [bval]
      rw [h2 (by omega)]
      unfold upd
      rw [if_neg (by omega)]
theorem bval_lt {f : Nat → Nat} : ∀ n, (∀ j, j < n → f j < 256) → bval f n < 256 ^ n
  | 0, _ => by simp [bval]
  | n + 1, h => by
    have h1 := bval_lt n fun j hj => h j (by omega)
    have h2 : f n * 256 ^ n ≤ 255 * 256 ^ n := Nat.mul_le_mul_right _ (by have := h n (by omega); omega)
    rw [bval, Nat.pow_succ]; omega
theorem leNat_append : ∀ (l m : List UInt8), leNat (l ++ m) = leNat l + 256 ^ l.length * leNat m
  | [], m => by simp [leNat]
  | c :: l, m => by
    simp only [List.cons_append, leNat, leNat_append l m, List.length_cons, Nat.pow_succ', Nat.mul_add, Nat.mul_assoc]
    omega
theorem leNat_map (f : Nat → Nat) (hf : ∀ j, f j < 256) : ∀ n, leNat ((List.range n).map fun j => UInt8.ofNat (f j)) = bval f n
  | 0 => rfl
  | n + 1 => by
    rw [List.range_succ, List.map_append, leNat_append, leNat_map f hf n, bval]
    have := hf n
    simp only [List.map_cons, List.map_nil, leNat, List.length_map, List.length_range, Nat.mul_zero, Nat.add_zero]
    rw [Nat.mul_comm, UInt8.toNat_ofNat', Nat.mod_eq_of_lt (by omega)]
theorem leNat_bval (l : List UInt8) : leNat l = bval (fun j => (l.getD j 0).toNat) l.length := by
  rw [← leNat_map _ (fun j => UInt8.toNat_lt _)]
  congr 1
  apply List.ext_getElem
  · simp
  · intro i h1 h2; simp [h1]
theorem leNat_zeros : ∀ n, leNat (List.replicate n 0) = 0
  | 0 => rfl
  | n + 1 => by rw [List.replicate_succ, leNat, leNat_zeros n]; rfl
theorem leNat_leBytes (n k : Nat) : leNat (leBytes n k) = n % 256 ^ k := by
  rw [leBytes, leNat_map (fun j => n / 256 ^ j % 256) (fun j => Nat.mod_lt _ (by omega))]
  induction k with
  | zero => simp [bval, Nat.mod_one]
  | succ k ih => rw [bval, ih, Nat.mod_pow_succ, Nat.mul_comm]
theorem leBytes_leNat (l : List UInt8) : leBytes (leNat l) l.length = l := by
  apply List.ext_getElem
  · simp [leBytes]
  · intro i h1 h2
    simp [leBytes, leNat_byte, h2]
theorem leBytes_inj_s (n m k : Nat) (h : leBytes n k = leBytes m k) : n % 256 ^ k = m % 256 ^ k := by
  rw [← leNat_leBytes, h, leNat_leBytes]

/-! products, byte by byte -/
structure MulS (N x yk : Nat) (o : Nat → Nat) (i k carry : Nat) : Prop where
  val : bval o 65 + carry * 256 ^ (i + k) = N + x * (256 ^ i * yk)
  byte : ∀ j, o j < 256
  car : carry < 256
  top : ∀ j, i + 32 ≤ j → o j = 0
theorem MulS.step {N x yk y : Nat} {o : Nat → Nat} {i k carry : Nat} (h : MulS N x yk o i k carry) (hk : k < 32) (hi : i < 32) (hx : x < 256) (hy : y < 256) :
    x * y + o (i + k) + carry < 65536 ∧ MulS N x (yk + y * 256 ^ k) (upd o (i + k) ((x * y + o (i + k) + carry) % 256)) i (k + 1) ((x * y + o (i + k) + carry) / 256) := by
  obtain ⟨hv, hb, hc, ht⟩ := h
  have h1 := hb (i + k)
  have h2 : x * y ≤ 255 * 255 := Nat.mul_le_mul (by omega) (by omega)
  refine ⟨by omega, ⟨?_, ?_, by omega, ?_⟩⟩
  · have h3 := (bval_upd o (i + k) ((x * y + o (i + k) + carry) % 256) 65).1 (by omega)
    have h4 := Nat.div_add_mod (x * y + o (i + k) + carry) 256
    generalize (x * y + o (i + k) + carry) / 256 = q at *
    generalize (x * y + o (i + k) + carry) % 256 = r at *
    have h5 : x * (256 ^ i * (yk + y * 256 ^ k)) = x * (256 ^ i * yk) + x * y * 256 ^ (i + k) := by
      rw [Nat.pow_add]; grind
    rw [h5]
    have h6 : q * 256 ^ (i + (k + 1)) + r * 256 ^ (i + k) = (x * y + o (i + k) + carry) * 256 ^ (i + k) := by
      rw [← h4, ← Nat.add_assoc, Nat.pow_succ]; grind
    rw [Nat.add_mul, Nat.add_mul] at h6
    omega
  · intro j; unfold upd; split
    · omega
    · exact hb j
  · intro j hj; unfold upd; rw [if_neg (by omega)]; exact ht j hj
/-- what is over goes into the byte behind -/
theorem MulS.last {N x Y : Nat} {o : Nat → Nat} {i carry : Nat} (h : MulS N x Y o i 32 carry) (hi : i < 32) :
    o (i + 32) = 0 ∧ bval (upd o (i + 32) carry) 65 = N + x * (256 ^ i * Y) ∧ (∀ j, upd o (i + 32) carry j < 256) ∧ (∀ j, i + 1 + 32 ≤ j → upd o (i + 32) carry j = 0) := by
  obtain ⟨hv, hb, hc, ht⟩ := h
  have h0 := ht (i + 32) (Nat.le_refl _)
  refine ⟨h0, ?_, ?_, ?_⟩
  · have h3 := (bval_upd o (i + 32) carry 65).1 (by omega)
    rw [h0] at h3
    omega
  · intro j; unfold upd; split
    · exact hc
    · exact hb j
  · intro j hj; unfold upd; rw [if_neg (by omega)]; exact ht j (by omega)
theorem MulS.start {N x : Nat} {o : Nat → Nat} {i : Nat} (hv : bval o 65 = N) (hb : ∀ j, o j < 256) (ht : ∀ j, i + 32 ≤ j → o j = 0) : MulS N x 0 o i 0 0 := ⟨by rw [hv]; simp, hb, by omega, ht⟩
theorem upd_id (o : Nat → Nat) (i : Nat) : upd o i (o i) = o := by funext j; unfold upd; split <;> simp_all

/-! the document's digits -/
def dNs : List Nat → Nat | [] => 0 | d :: l => d + 65536 * dNs l
theorem dNs_append : ∀ (l m : List Nat), dNs (l ++ m) = dNs l + 65536 ^ l.length * dNs m
  | [], m => by simp [dNs]
  | c :: l, m => by
    simp only [List.cons_append, dNs, dNs_append l m, List.length_cons, Nat.pow_succ', Nat.mul_add, Nat.mul_assoc]
    omega
theorem dNs_map (f : Nat → Nat) : ∀ n, dNs ((List.range n).map f) = fval f n
  | 0 => rfl
  | n + 1 => by
    rw [List.range_succ, List.map_append, dNs_append, dNs_map f n, fval]
    simp [dNs, Nat.mul_comm]
theorem dNs_drop (l : List Nat) (i : Nat) (h : i < l.length) : dNs (l.drop i) = l.getD i 0 + 65536 * dNs (l.drop (i + 1)) := by
  rw [List.drop_eq_getElem_cons h, dNs]
  simp [h]
/-- the carry into digit n of twice a number -/
def carD (R c n : Nat) : Nat := (2 * (R % 65536 ^ n) + c) / 65536 ^ n
theorem carD_zero (R c : Nat) : carD R c 0 = c := by simp [carD, Nat.mod_one]
theorem carD_lt (R c n : Nat) (h : c < 2) : carD R c n < 2 := by
  unfold carD
  have h0 : 0 < 65536 ^ n := Nat.pow_pos (by omega)
  have := Nat.mod_lt R h0
  rw [Nat.div_lt_iff_lt_mul h0]; omega
theorem dbl_digit (R c n : Nat) : (2 * dig R n + carD R c n) % 65536 = dig (2 * R + c) n ∧ (2 * dig R n + carD R c n) / 65536 = carD R c (n + 1) := by
  unfold dig carD
  have h0 : 0 < 65536 ^ n := Nat.pow_pos (by omega)
  generalize hM : 65536 ^ n = M at *
  have h1 := Nat.div_add_mod R M
  have h2 : (2 * R + c) / M = (2 * (R % M) + c) / M + 2 * (R / M) := by
    rw [show 2 * R + c = 2 * (R % M) + c + M * (2 * (R / M)) by
      rw [Nat.mul_left_comm]; omega, Nat.add_mul_div_left _ _ h0]
  constructor
  · rw [h2]
    generalize (2 * (R % M) + c) / M = u
    omega
  · rw [Nat.pow_succ, hM, Nat.mod_mul, ← Nat.div_div_eq_div_mul]
    rw [show 2 * (R % M + M * (R / M % 65536)) + c = 2 * (R % M) + c + M * (2 * (R / M % 65536)) by
      rw [Nat.mul_add, Nat.mul_left_comm]; omega, Nat.add_mul_div_left _ _ h0]
    congr 1; omega
/-- what is borrowed from digit n of B + D less B -/
def borD (B D n : Nat) : Nat := (B % 65536 ^ n + D % 65536 ^ n) / 65536 ^ n
theorem borD_zero (B D : Nat) : borD B D 0 = 0 := by simp [borD, Nat.mod_one]
theorem borD_le (B D n : Nat) : borD B D n ≤ 1 := by
  unfold borD
  have h0 : 0 < 65536 ^ n := Nat.pow_pos (by omega)
  have h1 := Nat.mod_lt B h0
  have h2 := Nat.mod_lt D h0
  have : (B % 65536 ^ n + D % 65536 ^ n) / 65536 ^ n < 2 := by rw [Nat.div_lt_iff_lt_mul h0]; omega
  omega
theorem add_digit (B D n : Nat) : dig (B + D) n = (dig B n + dig D n + borD B D n) % 65536 ∧ borD B D (n + 1) = (dig B n + dig D n + borD B D n) / 65536 := by
  unfold dig borD
  have h0 : 0 < 65536 ^ n := Nat.pow_pos (by omega)
  generalize hM : 65536 ^ n = M at *
  have h1 := Nat.div_add_mod B M
  have h3 := Nat.div_add_mod D M
  have h2 : (B + D) / M = (B % M + D % M) / M + (B / M + D / M) := by
    conv => lhs; rw [← h1, ← h3]
    rw [show M * (B / M) + B % M + (M * (D / M) + D % M) = B % M + D % M + M * (B / M + D / M) by rw [Nat.mul_add]; omega, Nat.add_mul_div_left _ _ h0]
  constructor
  · rw [h2]
    generalize (B % M + D % M) / M = u
    omega
  · rw [Nat.pow_succ, hM, Nat.mod_mul, Nat.mod_mul, ← Nat.div_div_eq_div_mul]
    rw [show B % M + M * (B / M % 65536) + (D % M + M * (D / M % 65536)) = B % M + D % M + M * (B / M % 65536 + D / M % 65536) by
      rw [Nat.mul_add]; omega, Nat.add_mul_div_left _ _ h0]
    congr 1; omega
end Go.Proofs.Ytpkoniebbkkmjaa

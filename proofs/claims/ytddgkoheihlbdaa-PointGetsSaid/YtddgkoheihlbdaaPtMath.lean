/- Points: 32 bytes as a number and a bit; the field's numbers by name. -/
import Derived.Test.YtddgkoheihlbdaaPtKit
namespace Go.Proofs.Ytddgkoheihlbdaa
open Go.RowKit

def bts (n : Nat) : Array Value := (lCells (leBytes n 32)).toArray
theorem bts_size (n : Nat) : (bts n).size = 32 := by simp [bts, lCells, leBytes]
theorem bts_one (n : Nat) : (bts n).all (·.oneCell') = true := all_oneCell_toArray (fun v hv => by simp [lCells] at hv; obtain ⟨j, _, rfl⟩ := hv; rfl)
theorem bts_get (n j : Nat) (h : j < 32) : (bts n)[j]? = some (.int .u8 (n / 256 ^ j % 256 : Nat)) := by
  simp [bts, lCells, leBytes, h]
theorem bArr_bts (v : Nat) (hv : v < 2 ^ 255) : bArr v 255 = bts v := by
  apply Array.ext
  · rw [bArr_size, bts_size]
  · intro j h1 h2
    rw [bArr_size] at h1
    have e1 := bArr_get v 255 j h1
    have e2 := bts_get v j h1
    rw [byteAt_end v j hv] at e1
    rw [Array.getElem?_eq_getElem (by rw [bArr_size]; exact h1)] at e1
    rw [Array.getElem?_eq_getElem (by rw [bts_size]; exact h1)] at e2
    have e3 := e1.trans e2.symm
    exact Option.some.inj e3

theorem low_same (r q j : Nat) (hj : j < 31) : (r + 2 ^ 255 * q) / 256 ^ j % 256 = r / 256 ^ j % 256 := by
  have e : 2 ^ 255 * q = 256 ^ j * (256 * (2 ^ (247 - 8 * j) * q)) := by
    rw [show (256 : Nat) ^ j = 2 ^ (8 * j) by rw [show (256 : Nat) = 2 ^ 8 from rfl, ← Nat.pow_mul], ← Nat.mul_assoc, ← Nat.mul_assoc]
    congr 1
    rw [show (256 : Nat) = 2 ^ 8 from rfl, ← Nat.pow_add, ← Nat.pow_add]
    congr 1
    omega
  rw [e, Nat.add_mul_div_left _ _ (Nat.pow_pos (by omega)), Nat.add_mul_mod_self_left]
theorem top_byte (r q : Nat) (hr : r < 2 ^ 255) (hq : q < 2) : (r + 2 ^ 255 * q) / 256 ^ 31 % 256 = r / 256 ^ 31 + 128 * q := by
  simp only [Nat.reducePow] at *
  omega
theorem top_low (r : Nat) (hr : r < 2 ^ 255) : r / 256 ^ 31 < 128 := by
  simp only [Nat.reducePow] at *
  omega
/-- the last byte is written anew -/
theorem bts_set (r q p : Nat) (hr : r < 2 ^ 255) (hp : p < 2) : (bts (r + 2 ^ 255 * q)).setIfInBounds 31 (.int .u8 (r / 256 ^ 31 + 128 * p : Nat)) = bts (r + 2 ^ 255 * p) := by
  apply Array.ext
  · simp [bts_size]
  · intro j h1 h2
    rw [bts_size] at h2
    have e2 := bts_get (r + 2 ^ 255 * p) j h2
    rw [Array.getElem?_eq_getElem (by rw [bts_size]; exact h2)] at e2
    rw [Option.some.inj e2, Array.getElem_setIfInBounds]
    by_cases hj : 31 = j
    · subst hj
      rw [if_pos rfl, top_byte r p hr hp]
    · rw [if_neg hj]
      have e1 := bts_get (r + 2 ^ 255 * q) j h2
      rw [Array.getElem?_eq_getElem (by rw [bts_size]; exact h2)] at e1
      rw [Option.some.inj e1, low_same r q j (by omega), low_same r p j (by omega)]
    case h₂ => rw [bts_size]; exact h2

theorem bts_sl {w : World} {g n : Nat} (h : Box w g 40 (bts n)) : Sl w (some ⟨g, 0, none⟩) 32 32 (leBytes n 32) := cells_sl h (leBytes_len n 32)
theorem leNat_bytes : ∀ (k n : Nat), n < 256 ^ k → leNat (leBytes n k) = n
  | 0, n, h => by simp at h; subst h; simp [leBytes, leNat]
  | k + 1, n, h => by
    have h1 := leNat_bytes k (n / 256) (by rw [Nat.pow_succ] at h; omega)
    have e : leBytes n (k + 1) = UInt8.ofNat (n % 256) :: leBytes (n / 256) k := by
      simp only [leBytes, List.range_succ_eq_map, List.map_cons, List.map_map, Nat.pow_zero, Nat.div_one]
      congr 1
      apply List.map_congr_left
      intro j _
      simp [Nat.pow_succ', Nat.div_div_eq_div_mul]
    rw [e]
    simp only [leNat]
    rw [h1]
    simp
    omega
theorem bytes_of (l : List UInt8) : l = leBytes (leNat l) l.length := by
  induction l with
  | nil => simp [leBytes]
  | cons c l ih =>
    have e : leBytes (leNat (c :: l)) (l.length + 1) = UInt8.ofNat (leNat (c :: l) % 256) :: leBytes (leNat (c :: l) / 256) l.length := by
      simp only [leBytes, List.range_succ_eq_map, List.map_cons, List.map_map, Nat.pow_zero, Nat.div_one]
      congr 1
      apply List.map_congr_left
      intro j _
      simp [Nat.pow_succ', Nat.div_div_eq_div_mul]
    have h2 := c.toNat_lt
    rw [List.length_cons, e]
    simp only [leNat]
    rw [show (c.toNat + 256 * leNat l) % 256 = c.toNat by omega, show (c.toNat + 256 * leNat l) / 256 = leNat l by omega, ← ih]
    simp

/-! the field's numbers -/
def fa (u v : Nat) : Nat := (u + v) % P25
def fs (u v : Nat) : Nat := (u + (P25 - v)) % P25
def fm (u v : Nat) : Nat := u * v % P25
def fi (u : Nat) : Nat := pw u (P25 - 2)
theorem fa_lt (u v : Nat) : fa u v < P25 := Nat.mod_lt _ p_pos
theorem fs_lt (u v : Nat) : fs u v < P25 := Nat.mod_lt _ p_pos
theorem fm_lt (u v : Nat) : fm u v < P25 := Nat.mod_lt _ p_pos
theorem fi_lt (u : Nat) : fi u < P25 := pw_lt _ _
theorem elA {x y : L5} {u v : Nat} (hx : El x u) (hy : El y v) : El (x.add y) (fa u v) := el_add hx hy
theorem elS {x y : L5} {u v : Nat} (hx : El x u) (hy : El y v) : El (x.sub y) (fs u v) := el_sub hx hy
theorem elM {x y : L5} {u v : Nat} (hx : El x u) (hy : El y v) : El (x.mul y) (fm u v) := el_mul hx hy
theorem elOf (n : Nat) (h : n < 18446744073709551616) : El (ofL n) n := ⟨lt_mono (ofL_lt n h) (by omega), by unfold P25; omega, by rw [ofL_val, Nat.mod_eq_of_lt (by unfold P25; omega)]⟩
theorem inv_fi (x : L5) (u : Nat) (w : World) (hx : El x u) : Calls Try.prog 40 #[.agg (gArr x.at)] w (RetEl (fi u) w) := inv_any x u w hx
theorem rAdd (u v : Nat) (hu : u < P25) (hv : v < P25) (w : World) : Calls Try.prog 37 #[.agg (fArr (dig u)), .agg (fArr (dig v))] w fun e w' => e = .returned (.agg (fArr (dig (fa u v)))) ∧ Below w.heap.size w w' := refAdd_any u v w (p_lt hu) (p_lt hv)
theorem rSub (u v : Nat) (hu : u < P25) (hv : v < P25) (w : World) : Calls Try.prog 38 #[.agg (fArr (dig u)), .agg (fArr (dig v))] w fun e w' => e = .returned (.agg (fArr (dig (fs u v)))) ∧ Below w.heap.size w w' := refSub_any u v w hu hv
theorem rMul (u v : Nat) (hu : u < P25) (hv : v < P25) (w : World) : Calls Try.prog 39 #[.agg (fArr (dig u)), .agg (fArr (dig v))] w fun e w' => e = .returned (.agg (fArr (dig (fm u v)))) ∧ Below w.heap.size w w' := refMul_any u v w (p_lt hu) (p_lt hv)
theorem rInv (u : Nat) (hu : u < P25) (w : World) : Calls Try.prog 43 #[.agg (fArr (dig u))] w fun e w' => e = .returned (.agg (fArr (dig (fi u)))) ∧ Below w.heap.size w w' := refInv_any u w hu
theorem rNeg (u : Nat) (hu : u < P25) (w : World) : Calls Try.prog 73 #[.agg (fArr (dig u))] w fun e w' => e = .returned (.agg (fArr (dig (fs 0 u)))) ∧ Below w.heap.size w w' := by
  have := refNeg_any u w (Nat.le_of_lt hu)
  unfold fs
  rwa [Nat.zero_add]
theorem fbytes {x : L5} {u : Nat} (hx : El x u) (w : World) : Calls Try.prog 60 #[.agg (gArr x.at)] w fun e w' => e = .returned (.agg (bts u)) ∧ Below w.heap.size w w' := by
  have := bytes_any x w (lt_mono hx.1 (by omega))
  rw [hx.2.2, bArr_bts u (by have := hx.2.1; unfold P25 at this; simp only [Nat.reducePow]; omega)] at this
  exact this

def dN : Nat := fm (fs 0 121665) (fi 121666)
def xx (y : Nat) : Nat := fm (fs (fm y y) 1) (fi (fa (fm dN (fm y y)) 1))
end Go.Proofs.Ytddgkoheihlbdaa

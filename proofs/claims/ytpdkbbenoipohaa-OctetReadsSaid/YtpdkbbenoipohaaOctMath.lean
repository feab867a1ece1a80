/- Base64: plain lists. What the bitwise text computes, and that both ways of reading bring back what was written. -/
import Derived.Test.YtpdkbbenoipohaaOctB64
namespace Go.Proofs.Ytpdkbbenoipohaa
open Go.RowKit

def bitL (l : List UInt8) (i : Nat) : Nat := (l.getD (i / 8) 0).toNat / 2 ^ (7 - i % 8) % 2
def grpK (l : List UInt8) (i : Nat) : Nat → Nat
  | 0 => 0
  | k + 1 => 2 * grpK l i k + bitL l (i + k)
def grp (l : List UInt8) (i : Nat) : Nat := grpK l i 6
theorem bitL_lt (l : List UInt8) (i : Nat) : bitL l i < 2 := Nat.mod_lt _ (by omega)
theorem grpK_lt (l : List UInt8) (i k : Nat) : grpK l i k < 2 ^ k := by
  induction k with
  | zero => simp [grpK]
  | succ k ih => have := bitL_lt l (i + k); simp only [grpK, Nat.pow_succ]; omega
theorem grp_lt (l : List UInt8) (i : Nat) : grp l i < 64 := grpK_lt l i 6

def sgnsTo (l : List UInt8) (j : Nat) : List UInt8 := (List.range j).map fun t => sgn (grp l (6 * t))
def padTo (x : List UInt8) : List UInt8 := x ++ List.replicate ((4 - x.length % 4) % 4) 61
def refB64 (l : List UInt8) : List UInt8 := padTo (sgnsTo l ((8 * l.length + 5) / 6))

theorem sgnsTo_succ (l : List UInt8) (j : Nat) : sgnsTo l (j + 1) = sgnsTo l j ++ [sgn (grp l (6 * j))] := by simp [sgnsTo, List.range_succ]
theorem sgnsTo_len (l : List UInt8) (j : Nat) : (sgnsTo l j).length = j := by simp [sgnsTo]

theorem bitL_three (a b c : UInt8) (t : List UInt8) (i : Nat) : bitL (a :: b :: c :: t) (24 + i) = bitL t i := by
  unfold bitL
  rw [show (24 + i) / 8 = i / 8 + 3 by omega, show (24 + i) % 8 = i % 8 by omega]
  rfl
theorem grp_three (a b c : UInt8) (t : List UInt8) (i : Nat) : grp (a :: b :: c :: t) (24 + i) = grp t i := by
  simp only [grp, grpK, Nat.add_assoc, bitL_three]

theorem bits8 (x : Nat) (h : x < 256) : x = 128 * (x / 128 % 2) + 64 * (x / 64 % 2) + 32 * (x / 32 % 2) + 16 * (x / 16 % 2) + 8 * (x / 8 % 2) + 4 * (x / 4 % 2) + 2 * (x / 2 % 2) + x % 2 := by omega

theorem grp_0 (a : UInt8) (l : List UInt8) : grp (a :: l) 0 = a.toNat / 4 := by
  have := a.toNat_lt
  have := bits8 a.toNat (by omega)
  simp [grp, grpK, bitL]; omega
theorem grp_6 (a b : UInt8) (l : List UInt8) : grp (a :: b :: l) 6 = a.toNat % 4 * 16 + b.toNat / 16 := by
  have := a.toNat_lt
  have := b.toNat_lt
  simp [grp, grpK, bitL]; omega
theorem grp_6' (a : UInt8) : grp [a] 6 = a.toNat % 4 * 16 := by
  have := a.toNat_lt
  simp [grp, grpK, bitL]; omega
theorem grp_12 (a b c : UInt8) (l : List UInt8) : grp (a :: b :: c :: l) 12 = b.toNat % 16 * 4 + c.toNat / 64 := by
  have := b.toNat_lt
  have := c.toNat_lt
  simp [grp, grpK, bitL]; omega
theorem grp_12' (a b : UInt8) : grp [a, b] 12 = b.toNat % 16 * 4 := by
  have := b.toNat_lt
  simp [grp, grpK, bitL]; omega
theorem grp_18 (a b c : UInt8) (l : List UInt8) : grp (a :: b :: c :: l) 18 = c.toNat % 64 := by
  have := c.toNat_lt
  simp [grp, grpK, bitL]; omega

theorem sgnsTo_three (a b c : UInt8) (t : List UInt8) (n : Nat) : sgnsTo (a :: b :: c :: t) (n + 4) = quad (a.toNat * 65536 + b.toNat * 256 + c.toNat) ++ sgnsTo t n := by
  have ha := a.toNat_lt
  have hb := b.toNat_lt
  have hc := c.toNat_lt
  unfold sgnsTo
  rw [List.range_succ_eq_map, List.range_succ_eq_map, List.range_succ_eq_map, List.range_succ_eq_map]
  simp only [List.map_cons, List.map_map]
  rw [show 6 * 0 = 0 from rfl, show 6 * Nat.succ 0 = 6 from rfl, show 6 * Nat.succ (Nat.succ 0) = 12 from rfl, show 6 * Nat.succ (Nat.succ (Nat.succ 0)) = 18 from rfl,
    grp_0, grp_6, grp_12, grp_18]
  unfold quad
  rw [show a.toNat / 4 = (a.toNat * 65536 + b.toNat * 256 + c.toNat) / 262144 % 64 by omega,
    show a.toNat % 4 * 16 + b.toNat / 16 = (a.toNat * 65536 + b.toNat * 256 + c.toNat) / 4096 % 64 by omega,
    show b.toNat % 16 * 4 + c.toNat / 64 = (a.toNat * 65536 + b.toNat * 256 + c.toNat) / 64 % 64 by omega,
    show c.toNat % 64 = (a.toNat * 65536 + b.toNat * 256 + c.toNat) % 64 by omega]
  simp only [List.cons_append, List.nil_append, List.cons.injEq, true_and]
  apply List.map_congr_left
  intro i _
  simp only [Function.comp]
  rw [show 6 * Nat.succ (Nat.succ (Nat.succ (Nat.succ i))) = 24 + 6 * i by omega, grp_three]

theorem refB64_eq (l : List UInt8) : refB64 l = b64 l := by
  induction l using b64.induct with
  | case1 => rfl
  | case2 a =>
    have ha := a.toNat_lt
    have h0 := grp_0 a []
    have h6 := grp_6' a
    simp only [refB64, sgnsTo, List.length_singleton, show (8 * 1 + 5) / 6 = 2 from rfl, show List.range 2 = [0, 1] from rfl, List.map_cons, List.map_nil, Nat.mul_zero, Nat.mul_one, h0, h6, b64, padTo]
    rw [show a.toNat / 4 = a.toNat * 65536 / 262144 % 64 by omega, show a.toNat % 4 * 16 = a.toNat * 65536 / 4096 % 64 by omega]
    rfl
  | case3 a b =>
    have ha := a.toNat_lt
    have hb := b.toNat_lt
    have h0 := grp_0 a [b]
    have h6 := grp_6 a b []
    have h12 := grp_12' a b
    simp only [refB64, sgnsTo, List.length_cons, List.length_nil, show (8 * (0 + 1 + 1) + 5) / 6 = 3 from rfl, show List.range 3 = [0, 1, 2] from rfl, List.map_cons, List.map_nil, Nat.mul_zero, Nat.mul_one, show 6 * 2 = 12 from rfl, h0, h6, h12, b64, padTo]
    rw [show a.toNat / 4 = (a.toNat * 65536 + b.toNat * 256) / 262144 % 64 by omega, show a.toNat % 4 * 16 + b.toNat / 16 = (a.toNat * 65536 + b.toNat * 256) / 4096 % 64 by omega,
      show b.toNat % 16 * 4 = (a.toNat * 65536 + b.toNat * 256) / 64 % 64 by omega]
    rfl
  | case4 a b c t ih =>
    rw [b64, ← ih]
    unfold refB64
    rw [show (8 * (a :: b :: c :: t).length + 5) / 6 = (8 * t.length + 5) / 6 + 4 by simp; omega, sgnsTo_three]
    unfold padTo
    rw [List.append_assoc]
    congr 2
    simp only [List.length_append, show (quad (a.toNat * 65536 + b.toNat * 256 + c.toNat)).length = 4 from rfl]
    congr 1
    omega

/-- a sign's number -/
def sval (n : Nat) : Option Nat := if 65 ≤ n ∧ n ≤ 90 then some (n - 65) else if 97 ≤ n ∧ n ≤ 122 then some (n - 71) else if 48 ≤ n ∧ n ≤ 57 then some (n + 4) else if n = 43 then some 62 else if n = 47 then some 63 else none
theorem sval_lt : ∀ n : Fin 256, ∀ v, sval n.val = some v → v < 64 := by
  intro n v h
  have hn := n.isLt
  unfold sval at h
  repeat' split at h
  all_goals first | (cases h; done) | (injection h with h; omega)
theorem sval_sgn : ∀ k : Fin 64, sval (sgn k.val).toNat = some k.val := by decide
theorem sval_idx : ∀ n : Fin 256, Lib.indexByte signs.data.toList (n.val.toUInt8) = (match sval n.val with | some v => (v : Int) | none => -1) := by decide +kernel

/-- The bytes of four signs, up to the first that is none. -/
def dec4 (a b c d : UInt8) : List UInt8 :=
  match sval a.toNat, sval b.toNat with
  | some x, some y => match sval c.toNat with
    | some z => match sval d.toNat with
      | some u => [UInt8.ofNat ((x * 262144 + y * 4096 + z * 64 + u) / 65536), UInt8.ofNat ((x * 262144 + y * 4096 + z * 64 + u) / 256), UInt8.ofNat (x * 262144 + y * 4096 + z * 64 + u)]
      | none => [UInt8.ofNat ((x * 262144 + y * 4096 + z * 64) / 65536), UInt8.ofNat ((x * 262144 + y * 4096 + z * 64) / 256)]
    | none => [UInt8.ofNat ((x * 262144 + y * 4096) / 65536)]
  | _, _ => []
def unb : List UInt8 → List UInt8
  | a :: b :: c :: d :: t => dec4 a b c d ++ unb t
  | _ => []

theorem ofNat_mod (x : Nat) (a : UInt8) (h : x % 256 = a.toNat) : UInt8.ofNat x = a := by
  apply UInt8.toNat_inj.1
  simpa using h
theorem sv (k : Nat) (h : k < 64) : sval (sgn k).toNat = some k := sval_sgn ⟨k, h⟩

theorem unb_b64 (l : List UInt8) : unb (b64 l) = l := by
  induction l using b64.induct with
  | case1 => rfl
  | case2 a =>
    have ha := a.toNat_lt
    simp only [b64, unb, dec4, sv _ (Nat.mod_lt _ (show 0 < 64 by omega)), show sval (UInt8.toNat 61) = none from rfl, List.append_nil]
    rw [ofNat_mod _ a (by omega)]
  | case3 a b =>
    have ha := a.toNat_lt
    have hb := b.toNat_lt
    simp only [b64, unb, dec4, sv _ (Nat.mod_lt _ (show 0 < 64 by omega)), show sval (UInt8.toNat 61) = none from rfl, List.append_nil]
    rw [ofNat_mod _ a (by omega), ofNat_mod _ b (by omega)]
  | case4 a b c t ih =>
    have ha := a.toNat_lt
    have hb := b.toNat_lt
    have hc := c.toNat_lt
    simp only [b64, quad, List.cons_append, List.nil_append, unb, dec4, sv _ (Nat.mod_lt _ (show 0 < 64 by omega)), ih]
    rw [ofNat_mod _ a (by omega), ofNat_mod _ b (by omega), ofNat_mod _ c (by omega)]

/-- the bits of signs, up to the first that is none -/
def bitsOf : List UInt8 → List Nat
  | [] => []
  | c :: t => match sval c.toNat with
    | some n => [n / 32 % 2, n / 16 % 2, n / 8 % 2, n / 4 % 2, n / 2 % 2, n % 2] ++ bitsOf t
    | none => []
def pack : List Nat → List UInt8
  | a :: b :: c :: d :: e :: f :: g :: h :: t => UInt8.ofNat (128 * a + 64 * b + 32 * c + 16 * d + 8 * e + 4 * f + 2 * g + h) :: pack t
  | _ => []
theorem pk8 (x y : Nat) (a : UInt8) (h1 : x = a.toNat / 4) (h2 : y / 16 = a.toNat % 4) (hy : y < 64) :
    UInt8.ofNat (128 * (x / 32 % 2) + 64 * (x / 16 % 2) + 32 * (x / 8 % 2) + 16 * (x / 4 % 2) + 8 * (x / 2 % 2) + 4 * (x % 2) + 2 * (y / 32 % 2) + y / 16 % 2) = a := by
  have := a.toNat_lt
  apply ofNat_mod
  omega
theorem pk8b (y z : Nat) (b : UInt8) (h1 : y % 16 = b.toNat / 16) (h2 : z / 4 = b.toNat % 16) (hz : z < 64) :
    UInt8.ofNat (128 * (y / 8 % 2) + 64 * (y / 4 % 2) + 32 * (y / 2 % 2) + 16 * (y % 2) + 8 * (z / 32 % 2) + 4 * (z / 16 % 2) + 2 * (z / 8 % 2) + z / 4 % 2) = b := by
  have := b.toNat_lt
  apply ofNat_mod
  omega
theorem pk8c (z u : Nat) (c : UInt8) (h1 : z % 4 = c.toNat / 64) (h2 : u = c.toNat % 64) :
    UInt8.ofNat (128 * (z / 2 % 2) + 64 * (z % 2) + 32 * (u / 32 % 2) + 16 * (u / 16 % 2) + 8 * (u / 8 % 2) + 4 * (u / 4 % 2) + 2 * (u / 2 % 2) + u % 2) = c := by
  have := c.toNat_lt
  apply ofNat_mod
  omega
theorem pack_b64 (l : List UInt8) : pack (bitsOf (b64 l)) = l := by
  induction l using b64.induct with
  | case1 => rfl
  | case2 a =>
    have ha := a.toNat_lt
    simp only [b64, bitsOf, sv _ (Nat.mod_lt _ (show 0 < 64 by omega)), show sval (UInt8.toNat 61) = none from rfl, List.append_nil, List.cons_append, List.nil_append, pack]
    rw [pk8 _ _ a (by omega) (by omega) (by omega)]
  | case3 a b =>
    have ha := a.toNat_lt
    have hb := b.toNat_lt
    simp only [b64, bitsOf, sv _ (Nat.mod_lt _ (show 0 < 64 by omega)), show sval (UInt8.toNat 61) = none from rfl, List.append_nil, List.cons_append, List.nil_append, pack]
    rw [pk8 _ _ a (by omega) (by omega) (by omega), pk8b _ _ b (by omega) (by omega) (by omega)]
  | case4 a b c t ih =>
    have ha := a.toNat_lt
    have hb := b.toNat_lt
    have hc := c.toNat_lt
    simp only [b64, quad, List.cons_append, List.nil_append, bitsOf, sv _ (Nat.mod_lt _ (show 0 < 64 by omega)), pack, ih]
    rw [pk8 _ _ a (by omega) (by omega) (by omega), pk8b _ _ b (by omega) (by omega) (by omega), pk8c _ _ c (by omega) (by omega)]

/-- what Base64 that stands as it is written says -/
def unb64 (s : List UInt8) : Option (List UInt8) := if b64 (unb s) = s then some (unb s) else none
theorem unb64_both (s : List UInt8) : unb64 s = if b64 (pack (bitsOf s)) = s then some (pack (bitsOf s)) else none := by
  unfold unb64
  by_cases h : b64 (unb s) = s
  · have h2 : pack (bitsOf s) = unb s := by
      have := pack_b64 (unb s)
      rwa [h] at this
    rw [h2]
  · by_cases h2 : b64 (pack (bitsOf s)) = s
    · have h3 : unb s = pack (bitsOf s) := by
        have := unb_b64 (pack (bitsOf s))
        rwa [h2] at this
      rw [h3] at h
      exact absurd h2 h
    · rw [if_neg h, if_neg h2]
end Go.Proofs.Ytpdkbbenoipohaa

/- Base64: plain lists. What the bitwise text computes, and that both ways of reading bring back what was written. octet.Unbase64: what it computes. the document's Hex, Value, Unhex: what they compute. the document's bit, Base64, sign: what they compute. the document's sign and Unbase64; octet.Unbase64: what they compute. the document's Unbase64: what it computes. -/
import Derived.Test.YtkbblhioncecmaaDoorNtG7
import Derived.Lib.IndexBytes
import Derived.Deep.RegionLaw
import Derived.Lib.Strings
namespace Go.Proofs.YtkbblhioncecmaaDoor
open Go.RowKit

def bitL (l : List UInt8) (i : Nat) : Nat := (l.getD (i / 8) 0).toNat / 2 ^ (7 - i % 8) % 2
def grpK (l : List UInt8) (i : Nat) : Nat → Nat
  | 0 => 0
  | k + 1 => 2 * grpK l i k + bitL l (i + k)
def grp (l : List UInt8) (i : Nat) : Nat := grpK l i 6
theorem bitL_lt (l : List UInt8) (i : Nat) : bitL l i < 2 := Nat.mod_lt _ (by omega)
theorem grpK_lt (l : List UInt8) (i k : Nat) : grpK l i k < 2 ^ k := by
  induction k with
  | zero => simp [grpK]
  | succ k ih => have := bitL_lt l (i + k); simp only [grpK, Nat.pow_succ]; omega
theorem grp_lt (l : List UInt8) (i : Nat) : grp l i < 64 := grpK_lt l i 6

def sgnsTo (l : List UInt8) (j : Nat) : List UInt8 := (List.range j).map fun t => sgn (grp l (6 * t))
def padTo (x : List UInt8) : List UInt8 := x ++ List.replicate ((4 - x.length % 4) % 4) 61
def refB64 (l : List UInt8) : List UInt8 := padTo (sgnsTo l ((8 * l.length + 5) / 6))

theorem sgnsTo_succ (l : List UInt8) (j : Nat) : sgnsTo l (j + 1) = sgnsTo l j ++ [sgn (grp l (6 * j))] := by simp [sgnsTo, List.range_succ]
theorem sgnsTo_len (l : List UInt8) (j : Nat) : (sgnsTo l j).length = j := by simp [sgnsTo]

theorem bitL_three (a b c : UInt8) (t : List UInt8) (i : Nat) : bitL (a :: b :: c :: t) (24 + i) = bitL t i := by
  unfold bitL
  rw [show (24 + i) / 8 = i / 8 + 3 by omega, show (24 + i) % 8 = i % 8 by omega]
  rfl
theorem grp_three (a b c : UInt8) (t : List UInt8) (i : Nat) : grp (a :: b :: c :: t) (24 + i) = grp t i := by
  simp only [grp, grpK, Nat.add_assoc, bitL_three]

theorem bits8 (x : Nat) (h : x < 256) : x = 128 * (x / 128 % 2) + 64 * (x / 64 % 2) + 32 * (x / 32 % 2) + 16 * (x / 16 % 2) + 8 * (x / 8 % 2) + 4 * (x / 4 % 2) + 2 * (x / 2 % 2) + x % 2 := by omega

theorem grp_0 (a : UInt8) (l : List UInt8) : grp (a :: l) 0 = a.toNat / 4 := by
  have := a.toNat_lt
  have := bits8 a.toNat (by omega)
  simp [grp, grpK, bitL]; omega
theorem grp_6 (a b : UInt8) (l : List UInt8) : grp (a :: b :: l) 6 = a.toNat % 4 * 16 + b.toNat / 16 := by
  have := a.toNat_lt
  have := b.toNat_lt
  simp [grp, grpK, bitL]; omega
theorem grp_6' (a : UInt8) : grp [a] 6 = a.toNat % 4 * 16 := by
  have := a.toNat_lt
  simp [grp, grpK, bitL]; omega
theorem grp_12 (a b c : UInt8) (l : List UInt8) : grp (a :: b :: c :: l) 12 = b.toNat % 16 * 4 + c.toNat / 64 := by
  have := b.toNat_lt
  have := c.toNat_lt
  simp [grp, grpK, bitL]; omega
theorem grp_12' (a b : UInt8) : grp [a, b] 12 = b.toNat % 16 * 4 := by
  have := b.toNat_lt
  simp [grp, grpK, bitL]; omega
theorem grp_18 (a b c : UInt8) (l : List UInt8) : grp (a :: b :: c :: l) 18 = c.toNat % 64 := by
  have := c.toNat_lt
  simp [grp, grpK, bitL]; omega

theorem sgnsTo_three (a b c : UInt8) (t : List UInt8) (n : Nat) : sgnsTo (a :: b :: c :: t) (n + 4) = quad (a.toNat * 65536 + b.toNat * 256 + c.toNat) ++ sgnsTo t n := by
  have ha := a.toNat_lt
  have hb := b.toNat_lt
  have hc := c.toNat_lt
  unfold sgnsTo
  rw [List.range_succ_eq_map, List.range_succ_eq_map, List.range_succ_eq_map, List.range_succ_eq_map]
  simp only [List.map_cons, List.map_map]
  rw [show 6 * 0 = 0 from rfl, show 6 * Nat.succ 0 = 6 from rfl, show 6 * Nat.succ (Nat.succ 0) = 12 from rfl, show 6 * Nat.succ (Nat.succ (Nat.succ 0)) = 18 from rfl,
    grp_0, grp_6, grp_12, grp_18]
  unfold quad
  rw [show a.toNat / 4 = (a.toNat * 65536 + b.toNat * 256 + c.toNat) / 262144 % 64 by omega,
    show a.toNat % 4 * 16 + b.toNat / 16 = (a.toNat * 65536 + b.toNat * 256 + c.toNat) / 4096 % 64 by omega,
    show b.toNat % 16 * 4 + c.toNat / 64 = (a.toNat * 65536 + b.toNat * 256 + c.toNat) / 64 % 64 by omega,
    show c.toNat % 64 = (a.toNat * 65536 + b.toNat * 256 + c.toNat) % 64 by omega]
  simp only [List.cons_append, List.nil_append, List.cons.injEq, true_and]
  apply List.map_congr_left
  intro i _
  simp only [Function.comp]
  rw [show 6 * Nat.succ (Nat.succ (Nat.succ (Nat.succ i))) = 24 + 6 * i by omega, grp_three]

theorem refB64_eq (l : List UInt8) : refB64 l = b64 l := by
  induction l using b64.induct with
  | case1 => rfl
  | case2 a =>
    have ha := a.toNat_lt
    have h0 := grp_0 a []
    have h6 := grp_6' a
    simp only [refB64, sgnsTo, List.length_singleton, show (8 * 1 + 5) / 6 = 2 from rfl, show List.range 2 = [0, 1] from rfl, List.map_cons, List.map_nil, Nat.mul_zero, Nat.mul_one, h0, h6, b64, padTo]
    rw [show a.toNat / 4 = a.toNat * 65536 / 262144 % 64 by omega, show a.toNat % 4 * 16 = a.toNat * 65536 / 4096 % 64 by omega]
    rfl
  | case3 a b =>
    have ha := a.toNat_lt
    have hb := b.toNat_lt
    have h0 := grp_0 a [b]
    have h6 := grp_6 a b []
    have h12 := grp_12' a b
    simp only [refB64, sgnsTo, List.length_cons, List.length_nil, show (8 * (0 + 1 + 1) + 5) / 6 = 3 from rfl, show List.range 3 = [0, 1, 2] from rfl, List.map_cons, List.map_nil, Nat.mul_zero, Nat.mul_one, show 6 * 2 = 12 from rfl, h0, h6, h12, b64, padTo]
    rw [show a.toNat / 4 = (a.toNat * 65536 + b.toNat * 256) / 262144 % 64 by omega, show a.toNat % 4 * 16 + b.toNat / 16 = (a.toNat * 65536 + b.toNat * 256) / 4096 % 64 by omega,
      show b.toNat % 16 * 4 = (a.toNat * 65536 + b.toNat * 256) / 64 % 64 by omega]
    rfl
  | case4 a b c t ih =>
    rw [b64, ← ih]
    unfold refB64
    rw [show (8 * (a :: b :: c :: t).length + 5) / 6 = (8 * t.length + 5) / 6 + 4 by simp; omega, sgnsTo_three]
    unfold padTo
    rw [List.append_assoc]
    congr 2
    simp only [List.length_append, show (quad (a.toNat * 65536 + b.toNat * 256 + c.toNat)).length = 4 from rfl]
    congr 1
    omega

/-- a sign's number -/
def sval (n : Nat) : Option Nat := if 65 ≤ n ∧ n ≤ 90 then some (n - 65) else if 97 ≤ n ∧ n ≤ 122 then some (n - 71) else if 48 ≤ n ∧ n ≤ 57 then some (n + 4) else if n = 43 then some 62 else if n = 47 then some 63 else none
theorem sval_lt : ∀ n : Fin 256, ∀ v, sval n.val = some v → v < 64 := by
  intro n v h
  have hn := n.isLt
  unfold sval at h
  repeat' split at h
  all_goals first | (cases h; done) | (injection h with h; omega)
theorem sval_sgn : ∀ k : Fin 64, sval (sgn k.val).toNat = some k.val := by decide
theorem sval_idx : ∀ n : Fin 256, Lib.indexByte signs.data.toList (n.val.toUInt8) = (match sval n.val with | some v => (v : Int) | none => -1) := by decide +kernel

/-- The bytes of four signs, up to the first that is none. -/
def dec4 (a b c d : UInt8) : List UInt8 :=
  match sval a.toNat, sval b.toNat with
  | some x, some y => match sval c.toNat with
    | some z => match sval d.toNat with
      | some u => [UInt8.ofNat ((x * 262144 + y * 4096 + z * 64 + u) / 65536), UInt8.ofNat ((x * 262144 + y * 4096 + z * 64 + u) / 256), UInt8.ofNat (x * 262144 + y * 4096 + z * 64 + u)]
      | none => [UInt8.ofNat ((x * 262144 + y * 4096 + z * 64) / 65536), UInt8.ofNat ((x * 262144 + y * 4096 + z * 64) / 256)]
    | none => [UInt8.ofNat ((x * 262144 + y * 4096) / 65536)]
  | _, _ => []
def unb : List UInt8 → List UInt8
  | a :: b :: c :: d :: t => dec4 a b c d ++ unb t
  | _ => []

theorem ofNat_mod (x : Nat) (a : UInt8) (h : x % 256 = a.toNat) : UInt8.ofNat x = a := by
  apply UInt8.toNat_inj.1
  simpa using h
theorem sv (k : Nat) (h : k < 64) : sval (sgn k).toNat = some k := sval_sgn ⟨k, h⟩

theorem unb_b64 (l : List UInt8) : unb (b64 l) = l := by
  induction l using b64.induct with
  | case1 => rfl
  | case2 a =>
    have ha := a.toNat_lt
    simp only [b64, unb, dec4, sv _ (Nat.mod_lt _ (show 0 < 64 by omega)), show sval (UInt8.toNat 61) = none from rfl, List.append_nil]
    rw [ofNat_mod _ a (by omega)]
  | case3 a b =>
    have ha := a.toNat_lt
    have hb := b.toNat_lt
    simp only [b64, unb, dec4, sv _ (Nat.mod_lt _ (show 0 < 64 by omega)), show sval (UInt8.toNat 61) = none from rfl, List.append_nil]
    rw [ofNat_mod _ a (by omega), ofNat_mod _ b (by omega)]
  | case4 a b c t ih =>
    have ha := a.toNat_lt
    have hb := b.toNat_lt
    have hc := c.toNat_lt
    simp only [b64, quad, List.cons_append, List.nil_append, unb, dec4, sv _ (Nat.mod_lt _ (show 0 < 64 by omega)), ih]
    rw [ofNat_mod _ a (by omega), ofNat_mod _ b (by omega), ofNat_mod _ c (by omega)]

/-- the bits of signs, up to the first that is none -/
def bitsOf : List UInt8 → List Nat
  | [] => []
  | c :: t => match sval c.toNat with
    | some n => [n / 32 % 2, n / 16 % 2, n / 8 % 2, n / 4 % 2, n / 2 % 2, n % 2] ++ bitsOf t
    | none => []
def pack : List Nat → List UInt8
  | a :: b :: c :: d :: e :: f :: g :: h :: t => UInt8.ofNat (128 * a + 64 * b + 32 * c + 16 * d + 8 * e + 4 * f + 2 * g + h) :: pack t
  | _ => []
theorem pk8 (x y : Nat) (a : UInt8) (h1 : x = a.toNat / 4) (h2 : y / 16 = a.toNat % 4) (hy : y < 64) :
    UInt8.ofNat (128 * (x / 32 % 2) + 64 * (x / 16 % 2) + 32 * (x / 8 % 2) + 16 * (x / 4 % 2) + 8 * (x / 2 % 2) + 4 * (x % 2) + 2 * (y / 32 % 2) + y / 16 % 2) = a := by
  have := a.toNat_lt
  apply ofNat_mod
  omega
theorem pk8b (y z : Nat) (b : UInt8) (h1 : y % 16 = b.toNat / 16) (h2 : z / 4 = b.toNat % 16) (hz : z < 64) :
    UInt8.ofNat (128 * (y / 8 % 2) + 64 * (y / 4 % 2) + 32 * (y / 2 % 2) + 16 * (y % 2) + 8 * (z / 32 % 2) + 4 * (z / 16 % 2) + 2 * (z / 8 % 2) + z / 4 % 2) = b := by
  have := b.toNat_lt
  apply ofNat_mod
  omega
theorem pk8c (z u : Nat) (c : UInt8) (h1 : z % 4 = c.toNat / 64) (h2 : u = c.toNat % 64) :
    UInt8.ofNat (128 * (z / 2 % 2) + 64 * (z % 2) + 32 * (u / 32 % 2) + 16 * (u / 16 % 2) + 8 * (u / 8 % 2) + 4 * (u / 4 % 2) + 2 * (u / 2 % 2) + u % 2) = c := by
  have := c.toNat_lt
  apply ofNat_mod
  omega
theorem pack_b64 (l : List UInt8) : pack (bitsOf (b64 l)) = l := by
  induction l using b64.induct with
  | case1 => rfl
  | case2 a =>
    have ha := a.toNat_lt
    simp only [b64, bitsOf, sv _ (Nat.mod_lt _ (show 0 < 64 by omega)), show sval (UInt8.toNat 61) = none from rfl, List.append_nil, List.cons_append, List.nil_append, pack]
    rw [pk8 _ _ a (by omega) (by omega) (by omega)]
  | case3 a b =>
    have ha := a.toNat_lt
    have hb := b.toNat_lt
    simp only [b64, bitsOf, sv _ (Nat.mod_lt _ (show 0 < 64 by omega)), show sval (UInt8.toNat 61) = none from rfl, List.append_nil, List.cons_append, List.nil_append, pack]
    rw [pk8 _ _ a (by omega) (by omega) (by omega), pk8b _ _ b (by omega) (by omega) (by omega)]
  | case4 a b c t ih =>
    have ha := a.toNat_lt
    have hb := b.toNat_lt
    have hc := c.toNat_lt
    simp only [b64, quad, List.cons_append, List.nil_append, bitsOf, sv _ (Nat.mod_lt _ (show 0 < 64 by omega)), pack, ih]
    rw [pk8 _ _ a (by omega) (by omega) (by omega), pk8b _ _ b (by omega) (by omega) (by omega), pk8c _ _ c (by omega) (by omega)]

/-- what Base64 that stands as it is written says -/
def unb64 (s : List UInt8) : Option (List UInt8) := if b64 (unb s) = s then some (unb s) else none
theorem unb64_both (s : List UInt8) : unb64 s = if b64 (pack (bitsOf s)) = s then some (pack (bitsOf s)) else none := by
  unfold unb64
  by_cases h : b64 (unb s) = s
  · have h2 : pack (bitsOf s) = unb s := by
      have := pack_b64 (unb s)
      rwa [h] at this
    rw [h2]
  · by_cases h2 : b64 (pack (bitsOf s)) = s
    · have h3 : unb s = pack (bitsOf s) := by
        have := unb_b64 (pack (bitsOf s))
        rwa [h2] at this
      rw [h3] at h
      exact absurd h2 h
    · rw [if_neg h, if_neg h2]
end Go.Proofs.YtkbblhioncecmaaDoor
namespace Go.Proofs.YtkbblhioncecmaaDoor
open Go.RowKit

def svI (c : UInt8) : Int := match sval c.toNat with | some v => (v : Int) | none => -1
theorem svI_some (c : UInt8) (v : Nat) (h : sval c.toNat = some v) : svI c = (v : Int) := by simp [svI, h]
theorem svI_none (c : UInt8) (h : sval c.toNat = none) : svI c = -1 := by simp [svI, h]
theorem idx_any (c : UInt8) (w : World) : Calls Tryd.prog 63 #[.string signs, .int .u8 (c.toNat : Int)] w fun e w' => e = .returned (.int .i64 (svI c)) ∧ w = w' := by
  refine (Tryd.strings_IndexByte signs (c.toNat : Int) w).mono ?_
  rintro e w' ⟨rfl, rfl⟩
  have h := sval_idx ⟨c.toNat, c.toNat_lt⟩
  refine ⟨?_, rfl⟩
  rw [Int.toNat_natCast, h]
  rfl
theorem u32_first (k m : Nat) (h : k * m < 4294967296) : bits .or .u32 0 ((k : Int) * (m : Int)) = ((k * m : Nat) : Int) := by
  rw [show ((k : Int) * (m : Int)) = ((k * m : Nat) : Int) by simp, show (0 : Int) = ((0 : Nat) : Int) from rfl, u32_or_nat _ _ (by omega) h]
  simp
theorem u32_next (X k m : Nat) (j : Nat) (hX : X % 2 ^ j = 0) (hk : k * m < 2 ^ j) (hX2 : X < 16777216) (hj : j ≤ 24) : bits .or .u32 (X : Int) ((k : Int) * (m : Int)) = ((X + k * m : Nat) : Int) := by
  have h2 : (2 : Int) ^ j ≤ 2 ^ 24 := by
    have := Nat.pow_le_pow_right (n := 2) (by omega) hj
    exact_mod_cast this
  have hk' : (k : Int) * (m : Int) < 2 ^ j := by
    have : ((k * m : Nat) : Int) < ((2 ^ j : Nat) : Int) := by exact_mod_cast hk
    simpa using this
  have hp : (0 : Int) ≤ (k : Int) * (m : Int) := by
    have : (0 : Int) ≤ ((k * m : Nat) : Int) := Int.natCast_nonneg _
    simpa using this
  rw [bits_join .u32 32 (by decide) (fun n h0 h1 => by rw [IntKind.wrap_u32]; omega) j _ _ (by omega) (by exact_mod_cast hX) (by omega) hp hk' (by omega)]
  simp
theorem unb_drop (s : ByteArray) (h : 4 ≤ s.size) : unb s.data.toList = dec4 (s[0]'(by omega)) (s[1]'(by omega)) (s[2]'(by omega)) (s[3]'(by omega)) ++ unb (s.extract 4 s.size).data.toList := by
  have hl : 4 ≤ s.data.toList.length := by simpa using h
  rw [Lib.extract_to_end]
  obtain ⟨l, hE⟩ : ∃ l, l = s.data.toList := ⟨_, rfl⟩
  have g0 : s[0]'(by omega) = s.data.toList[0]'(by omega) := rfl
  have g1 : s[1]'(by omega) = s.data.toList[1]'(by omega) := rfl
  have g2 : s[2]'(by omega) = s.data.toList[2]'(by omega) := rfl
  have g3 : s[3]'(by omega) = s.data.toList[3]'(by omega) := rfl
  rw [g0, g1, g2, g3]
  simp only [← hE]
  rw [← hE] at hl
  match l, hl with
  | a :: b :: c :: d :: t, _ => simp [unb]
theorem unb_short (s : ByteArray) (h : s.size < 4) : unb s.data.toList = [] := by
  have hl : s.data.toList.length < 4 := by simpa using h
  match s.data.toList, hl with
  | [], _ => rfl
  | [_], _ => rfl
  | [_, _], _ => rfl
  | [_, _, _], _ => rfl
theorem ofNat_256 (n : Nat) : UInt8.ofNat (n % 256) = UInt8.ofNat n := by
  apply UInt8.toNat_inj.1; simp

set_option maxHeartbeats 8000000 in
set_option maxRecDepth 100000 in
theorem unb_any (s : ByteArray) (w : World) (hs : s.size ≤ 100000) :
    Calls Tryd.prog 76 #[.string s] w (Gave (unb64 s.data.toList) (.int .i64 (errForm (unb64 s.data.toList))) w.heap.size w) := by
  obtain ⟨R, hR⟩ : ∃ R, R = unb64 s.data.toList := ⟨_, rfl⟩
  rw [← hR]
  have HR := Lib.hid hR
  have HSL := Lib.hid (show s.toList = s.data.toList from Lib.toList_data s)
  clear hR
  obtain ⟨i0, hi, hz0, hz1, hz2⟩ := info_parts bldInfo5
  go_enter Tryd.func76, Tryd.ntmps76
  go_wp2_with fail
  go_loopw [4, 5] (fun out rest wr => ∃ (r : ByteArray) (d : List UInt8), rest = .string r ∧ wr.ownsRow w.heap.size 5 1 out d.length (Lib.byteCells d) ∧ Hid (unb s.data.toList = d ++ unb r.data.toList) ∧ d.length + r.size ≤ s.size ∧ Below w.heap.size w wr) (fun _ rest _ => strLen rest)
  case atStart => exact ⟨s, [], rfl, World.ownsRow_nil _ _ _ _, Lib.hid (by simp), by simp, Below.refl _ _⟩
  case round =>
    obtain ⟨wa, rfl⟩ : ∃ wa : World, wa = wr := ⟨_, rfl⟩
    obtain ⟨r, d, rfl, hown, HD, hdl, hW⟩ := hrel
    by_cases hlt : 4 ≤ r.size
    · have hlt' : (4 : Int) ≤ (r.size : Int) := by omega
      have HU := Lib.hid (unb_drop r hlt)
      have hex : (r.extract 4 r.size).size = r.size - 4 := by simp
      obtain ⟨r', hr'⟩ : ∃ r', r' = r.extract 4 r.size := ⟨_, rfl⟩
      rw [← hr'] at HU hex
      have HEX := Lib.hid hex
      have er := hr'.symm
      obtain ⟨c0, hc0⟩ : ∃ c, c = r[0]'(by omega) := ⟨_, rfl⟩
      obtain ⟨c1, hc1⟩ : ∃ c, c = r[1]'(by omega) := ⟨_, rfl⟩
      obtain ⟨c2, hc2⟩ : ∃ c, c = r[2]'(by omega) := ⟨_, rfl⟩
      obtain ⟨c3, hc3⟩ : ∃ c, c = r[3]'(by omega) := ⟨_, rfl⟩
      rw [← hc0, ← hc1, ← hc2, ← hc3] at HU
      have e0 := hc0.symm
      have e1 := hc1.symm
      have e2 := hc2.symm
      have e3 := hc3.symm
      clear hc0 hc1 hc2 hc3 hr' hex
      cases h0 : sval c0.toNat with
      | none =>
        have q0 := svI_none c0 h0
        have HV := Lib.hid (show dec4 c0 c1 c2 c3 = [] by simp only [dec4, h0])
        have HT := Lib.hid (show unb s.data.toList = d ++ unb r'.data.toList by rw [HD.out, HU.out, HV.out]; simp)
        clear h0 HU HD
        go_wp2_with fail
        refine wp_loop_rounds 5 ?_
        rw [rounds_succ]
        go_wp2_with fail
        refine (idx_any _ _).mono ?_
        rintro e wx ⟨rfl, rfl⟩
        go_wp2_with fail
        refine wp_loop_rounds 4 ?_
        rw [rounds_succ]
        go_wp2_with fail
        go_roundw
        case rel => exact ⟨r', d, rfl, by simpa using hown, HT, by have := HEX.out; simp; omega, hW⟩
        case measure => have := HEX.out; simp [strLen]; omega
      | some k0 =>
        cases h1 : sval c1.toNat with
        | none =>
          have q0 := svI_some c0 k0 h0
          have l0 : k0 < 64 := sval_lt ⟨c0.toNat, c0.toNat_lt⟩ k0 h0
          have q1 := svI_none c1 h1
          obtain ⟨X0, hX0⟩ : ∃ X : Nat, X = k0 * 262144 := ⟨_, rfl⟩
          have f0 := u32_first k0 262144 (by omega)
          rw [← hX0] at f0
          simp at f0
          have HV := Lib.hid (show dec4 c0 c1 c2 c3 = [] by simp only [dec4, h0, h1])
          have HT := Lib.hid (show unb s.data.toList = d ++ unb r'.data.toList by rw [HD.out, HU.out, HV.out]; simp)
          have bX0 : X0 < 16777216 := by omega
          clear h0 h1 hX0 HU HD
          go_wp2_with fail
          refine wp_loop_rounds 5 ?_
          rw [rounds_succ]
          go_wp2_with fail
          refine (idx_any _ _).mono ?_
          rintro e wx ⟨rfl, rfl⟩
          go_wp2_with fail
          rw [rounds_succ]
          go_wp2_with fail
          refine (idx_any _ _).mono ?_
          rintro e wx ⟨rfl, rfl⟩
          go_wp2_with fail
          refine wp_loop_rounds 4 ?_
          rw [rounds_succ]
          go_wp2_with fail
          go_roundw
          case rel => exact ⟨r', d, rfl, by simpa using hown, HT, by have := HEX.out; simp; omega, hW⟩
          case measure => have := HEX.out; simp [strLen]; omega
        | some k1 =>
          cases h2 : sval c2.toNat with
          | none =>
            have q0 := svI_some c0 k0 h0
            have l0 : k0 < 64 := sval_lt ⟨c0.toNat, c0.toNat_lt⟩ k0 h0
            have q1 := svI_some c1 k1 h1
            have l1 : k1 < 64 := sval_lt ⟨c1.toNat, c1.toNat_lt⟩ k1 h1
            have q2 := svI_none c2 h2
            obtain ⟨X0, hX0⟩ : ∃ X : Nat, X = k0 * 262144 := ⟨_, rfl⟩
            have f0 := u32_first k0 262144 (by omega)
            rw [← hX0] at f0
            simp at f0
            obtain ⟨X1, hX1⟩ : ∃ X : Nat, X = k0 * 262144 + k1 * 4096 := ⟨_, rfl⟩
            have f1 := u32_next X0 k1 4096 18 (by omega) (by omega) (by omega) (by omega)
            rw [show X0 + k1 * 4096 = X1 by omega] at f1
            simp at f1
            obtain ⟨z0, hz0'⟩ : ∃ z : Nat, z = X1 / 65536 % 256 := ⟨_, rfl⟩
            have HV := Lib.hid (show dec4 c0 c1 c2 c3 = [UInt8.ofNat z0] by
              simp only [dec4, h0, h1, h2]
              rw [show k0 * 262144 + k1 * 4096 = X1 from hX1.symm, hz0', ofNat_256])
            have g0 : (X1 : Int) / 65536 = (z0 : Int) := by omega
            have lz0 : z0 < 256 := by omega
            have HT := Lib.hid (show unb s.data.toList = (d ++ [UInt8.ofNat z0]) ++ unb r'.data.toList by rw [HD.out, HU.out, HV.out]; simp)
            have bX0 : X0 < 16777216 := by omega
            have bX1 : X1 < 16777216 := by omega
            clear h0 h1 h2 hX0 hX1 hz0' HU HD
            go_wp2_with fail
            refine wp_loop_rounds 5 ?_
            rw [rounds_succ]
            go_wp2_with fail
            refine (idx_any _ _).mono ?_
            rintro e wx ⟨rfl, rfl⟩
            go_wp2_with fail
            rw [rounds_succ]
            go_wp2_with fail
            refine (idx_any _ _).mono ?_
            rintro e wx ⟨rfl, rfl⟩
            go_wp2_with fail
            rw [rounds_succ]
            go_wp2_with fail
            refine (idx_any _ _).mono ?_
            rintro e wx ⟨rfl, rfl⟩
            go_wp2_with fail
            refine wp_loop_rounds 4 ?_
            rw [rounds_succ]
            go_wp2_with (at_builtin; go_loud (refine wpList_append_sl rfl (.tmp 42) (.tmp 49) 23 rfl w.heap.size 5 i0 Tryd.underlying23 hi hz0 hz1 hz2 _ (d.length) (d) rfl (hown.alloc _) _ 1 1 [UInt8.ofNat z0] rfl (sl_cell_nat _ _ z0 lz0 (cell_new _ _ _ rfl)) (by omega) (by have := hW.size; simp; omega) ?_); intro v1 w1 hown1 hg1)
            have hW1 := (hW.alloc hW.size _).grown hg1 (by have := hW.size; simp; omega) (fun t ht => (hown.lt t ht).1)
            rw [rounds_succ]
            go_wp2_with fail
            go_roundw
            case rel => exact ⟨r', d ++ [UInt8.ofNat z0], rfl, by simpa using hown1, HT, by have := HEX.out; simp; omega, hW1⟩
            case measure => have := HEX.out; simp [strLen]; omega
          | some k2 =>
            cases h3 : sval c3.toNat with
            | none =>
              have q0 := svI_some c0 k0 h0
              have l0 : k0 < 64 := sval_lt ⟨c0.toNat, c0.toNat_lt⟩ k0 h0
              have q1 := svI_some c1 k1 h1
              have l1 : k1 < 64 := sval_lt ⟨c1.toNat, c1.toNat_lt⟩ k1 h1
              have q2 := svI_some c2 k2 h2
              have l2 : k2 < 64 := sval_lt ⟨c2.toNat, c2.toNat_lt⟩ k2 h2
              have q3 := svI_none c3 h3
              obtain ⟨X0, hX0⟩ : ∃ X : Nat, X = k0 * 262144 := ⟨_, rfl⟩
              have f0 := u32_first k0 262144 (by omega)
              rw [← hX0] at f0
              simp at f0
              obtain ⟨X1, hX1⟩ : ∃ X : Nat, X = k0 * 262144 + k1 * 4096 := ⟨_, rfl⟩
              have f1 := u32_next X0 k1 4096 18 (by omega) (by omega) (by omega) (by omega)
              rw [show X0 + k1 * 4096 = X1 by omega] at f1
              simp at f1
              obtain ⟨X2, hX2⟩ : ∃ X : Nat, X = k0 * 262144 + k1 * 4096 + k2 * 64 := ⟨_, rfl⟩
              have f2 := u32_next X1 k2 64 12 (by omega) (by omega) (by omega) (by omega)
              rw [show X1 + k2 * 64 = X2 by omega] at f2
              simp at f2
              obtain ⟨z0, hz0'⟩ : ∃ z : Nat, z = X2 / 65536 % 256 := ⟨_, rfl⟩
              obtain ⟨z1, hz1'⟩ : ∃ z : Nat, z = X2 / 256 % 256 := ⟨_, rfl⟩
              have HV := Lib.hid (show dec4 c0 c1 c2 c3 = [UInt8.ofNat z0, UInt8.ofNat z1] by
                simp only [dec4, h0, h1, h2, h3]
                rw [show k0 * 262144 + k1 * 4096 + k2 * 64 = X2 from hX2.symm, hz0', hz1', ofNat_256, ofNat_256])
              have g0 : (X2 : Int) / 65536 = (z0 : Int) := by omega
              have lz0 : z0 < 256 := by omega
              have g1 : (X2 : Int) / 256 % 256 = (z1 : Int) := by omega
              have lz1 : z1 < 256 := by omega
              have HT := Lib.hid (show unb s.data.toList = (d ++ [UInt8.ofNat z0, UInt8.ofNat z1]) ++ unb r'.data.toList by rw [HD.out, HU.out, HV.out]; simp)
              have bX0 : X0 < 16777216 := by omega
              have bX1 : X1 < 16777216 := by omega
              have bX2 : X2 < 16777216 := by omega
              clear h0 h1 h2 h3 hX0 hX1 hX2 hz0' hz1' HU HD
              go_wp2_with fail
              refine wp_loop_rounds 5 ?_
              rw [rounds_succ]
              go_wp2_with fail
              refine (idx_any _ _).mono ?_
              rintro e wx ⟨rfl, rfl⟩
              go_wp2_with fail
              rw [rounds_succ]
              go_wp2_with fail
              refine (idx_any _ _).mono ?_
              rintro e wx ⟨rfl, rfl⟩
              go_wp2_with fail
              rw [rounds_succ]
              go_wp2_with fail
              refine (idx_any _ _).mono ?_
              rintro e wx ⟨rfl, rfl⟩
              go_wp2_with fail
              rw [rounds_succ]
              go_wp2_with fail
              refine (idx_any _ _).mono ?_
              rintro e wx ⟨rfl, rfl⟩
              go_wp2_with fail
              refine wp_loop_rounds 4 ?_
              rw [rounds_succ]
              go_wp2_with (at_builtin; go_loud (refine wpList_append_sl rfl (.tmp 42) (.tmp 49) 23 rfl w.heap.size 5 i0 Tryd.underlying23 hi hz0 hz1 hz2 _ (d.length) (d) rfl (hown.alloc _) _ 1 1 [UInt8.ofNat z0] rfl (sl_cell_nat _ _ z0 lz0 (cell_new _ _ _ rfl)) (by omega) (by have := hW.size; simp; omega) ?_); intro v1 w1 hown1 hg1)
              have hW1 := (hW.alloc hW.size _).grown hg1 (by have := hW.size; simp; omega) (fun t ht => (hown.lt t ht).1)
              rw [rounds_succ]
              go_wp2_with (at_builtin; go_loud (refine wpList_append_sl rfl (.tmp 42) (.tmp 49) 23 rfl w.heap.size 5 i0 Tryd.underlying23 hi hz0 hz1 hz2 _ (d.length + 1) (d ++ [UInt8.ofNat z0]) rfl (hown1.alloc _) _ 1 1 [UInt8.ofNat z1] rfl (sl_cell_nat _ _ z1 lz1 (cell_new _ _ _ rfl)) (by omega) (by have := hW1.size; simp; omega) ?_); intro v2 w2 hown2 hg2)
              have hW2 := (hW1.alloc hW1.size _).grown hg2 (by have := hW1.size; simp; omega) (fun t ht => (hown1.lt t ht).1)
              rw [rounds_succ]
              go_wp2_with fail
              go_roundw
              case rel => exact ⟨r', d ++ [UInt8.ofNat z0, UInt8.ofNat z1], rfl, by simpa using hown2, HT, by have := HEX.out; simp; omega, hW2⟩
              case measure => have := HEX.out; simp [strLen]; omega
            | some k3 =>
              have q0 := svI_some c0 k0 h0
              have l0 : k0 < 64 := sval_lt ⟨c0.toNat, c0.toNat_lt⟩ k0 h0
              have q1 := svI_some c1 k1 h1
              have l1 : k1 < 64 := sval_lt ⟨c1.toNat, c1.toNat_lt⟩ k1 h1
              have q2 := svI_some c2 k2 h2
              have l2 : k2 < 64 := sval_lt ⟨c2.toNat, c2.toNat_lt⟩ k2 h2
              have q3 := svI_some c3 k3 h3
              have l3 : k3 < 64 := sval_lt ⟨c3.toNat, c3.toNat_lt⟩ k3 h3
              obtain ⟨X0, hX0⟩ : ∃ X : Nat, X = k0 * 262144 := ⟨_, rfl⟩
              have f0 := u32_first k0 262144 (by omega)
              rw [← hX0] at f0
              simp at f0
              obtain ⟨X1, hX1⟩ : ∃ X : Nat, X = k0 * 262144 + k1 * 4096 := ⟨_, rfl⟩
              have f1 := u32_next X0 k1 4096 18 (by omega) (by omega) (by omega) (by omega)
              rw [show X0 + k1 * 4096 = X1 by omega] at f1
              simp at f1
              obtain ⟨X2, hX2⟩ : ∃ X : Nat, X = k0 * 262144 + k1 * 4096 + k2 * 64 := ⟨_, rfl⟩
              have f2 := u32_next X1 k2 64 12 (by omega) (by omega) (by omega) (by omega)
              rw [show X1 + k2 * 64 = X2 by omega] at f2
              simp at f2
              obtain ⟨X3, hX3⟩ : ∃ X : Nat, X = k0 * 262144 + k1 * 4096 + k2 * 64 + k3 := ⟨_, rfl⟩
              have f3 := u32_next X2 k3 1 6 (by omega) (by omega) (by omega) (by omega)
              rw [show X2 + k3 * 1 = X3 by omega] at f3
              simp at f3
              obtain ⟨z0, hz0'⟩ : ∃ z : Nat, z = X3 / 65536 % 256 := ⟨_, rfl⟩
              obtain ⟨z1, hz1'⟩ : ∃ z : Nat, z = X3 / 256 % 256 := ⟨_, rfl⟩
              obtain ⟨z2, hz2'⟩ : ∃ z : Nat, z = X3 % 256 := ⟨_, rfl⟩
              have HV := Lib.hid (show dec4 c0 c1 c2 c3 = [UInt8.ofNat z0, UInt8.ofNat z1, UInt8.ofNat z2] by
                simp only [dec4, h0, h1, h2, h3]
                rw [show k0 * 262144 + k1 * 4096 + k2 * 64 + k3 = X3 from hX3.symm, hz0', hz1', hz2', ofNat_256, ofNat_256, ofNat_256])
              have g0 : (X3 : Int) / 65536 = (z0 : Int) := by omega
              have lz0 : z0 < 256 := by omega
              have g1 : (X3 : Int) / 256 % 256 = (z1 : Int) := by omega
              have lz1 : z1 < 256 := by omega
              have g2 : (X3 : Int) % 256 = (z2 : Int) := by omega
              have lz2 : z2 < 256 := by omega
              have HT := Lib.hid (show unb s.data.toList = (d ++ [UInt8.ofNat z0, UInt8.ofNat z1, UInt8.ofNat z2]) ++ unb r'.data.toList by rw [HD.out, HU.out, HV.out]; simp)
              have bX0 : X0 < 16777216 := by omega
              have bX1 : X1 < 16777216 := by omega
              have bX2 : X2 < 16777216 := by omega
              have bX3 : X3 < 16777216 := by omega
              clear h0 h1 h2 h3 hX0 hX1 hX2 hX3 hz0' hz1' hz2' HU HD
              go_wp2_with fail
              refine wp_loop_rounds 5 ?_
              rw [rounds_succ]
              go_wp2_with fail
              refine (idx_any _ _).mono ?_
              rintro e wx ⟨rfl, rfl⟩
              go_wp2_with fail
              rw [rounds_succ]
              go_wp2_with fail
              refine (idx_any _ _).mono ?_
              rintro e wx ⟨rfl, rfl⟩
              go_wp2_with fail
              rw [rounds_succ]
              go_wp2_with fail
              refine (idx_any _ _).mono ?_
              rintro e wx ⟨rfl, rfl⟩
              go_wp2_with fail
              rw [rounds_succ]
              go_wp2_with fail
              refine (idx_any _ _).mono ?_
              rintro e wx ⟨rfl, rfl⟩
              go_wp2_with fail
              rw [rounds_succ]
              go_wp2_with fail
              refine wp_loop_rounds 4 ?_
              rw [rounds_succ]
              go_wp2_with (at_builtin; go_loud (refine wpList_append_sl rfl (.tmp 42) (.tmp 49) 23 rfl w.heap.size 5 i0 Tryd.underlying23 hi hz0 hz1 hz2 _ (d.length) (d) rfl (hown.alloc _) _ 1 1 [UInt8.ofNat z0] rfl (sl_cell_nat _ _ z0 lz0 (cell_new _ _ _ rfl)) (by omega) (by have := hW.size; simp; omega) ?_); intro v1 w1 hown1 hg1)
              have hW1 := (hW.alloc hW.size _).grown hg1 (by have := hW.size; simp; omega) (fun t ht => (hown.lt t ht).1)
              rw [rounds_succ]
              go_wp2_with (at_builtin; go_loud (refine wpList_append_sl rfl (.tmp 42) (.tmp 49) 23 rfl w.heap.size 5 i0 Tryd.underlying23 hi hz0 hz1 hz2 _ (d.length + 1) (d ++ [UInt8.ofNat z0]) rfl (hown1.alloc _) _ 1 1 [UInt8.ofNat z1] rfl (sl_cell_nat _ _ z1 lz1 (cell_new _ _ _ rfl)) (by omega) (by have := hW1.size; simp; omega) ?_); intro v2 w2 hown2 hg2)
              have hW2 := (hW1.alloc hW1.size _).grown hg2 (by have := hW1.size; simp; omega) (fun t ht => (hown1.lt t ht).1)
              rw [rounds_succ]
              go_wp2_with (at_builtin; go_loud (refine wpList_append_sl rfl (.tmp 42) (.tmp 49) 23 rfl w.heap.size 5 i0 Tryd.underlying23 hi hz0 hz1 hz2 _ (d.length + 1 + 1) (d ++ [UInt8.ofNat z0] ++ [UInt8.ofNat z1]) rfl (hown2.alloc _) _ 1 1 [UInt8.ofNat z2] rfl (sl_cell_nat _ _ z2 lz2 (cell_new _ _ _ rfl)) (by omega) (by have := hW2.size; simp; omega) ?_); intro v3 w3 hown3 hg3)
              have hW3 := (hW2.alloc hW2.size _).grown hg3 (by have := hW2.size; simp; omega) (fun t ht => (hown2.lt t ht).1)
              rw [rounds_succ]
              go_wp2_with fail
              go_roundw
              case rel => exact ⟨r', d ++ [UInt8.ofNat z0, UInt8.ofNat z1, UInt8.ofNat z2], rfl, by simpa using hown3, HT, by have := HEX.out; simp; omega, hW3⟩
              case measure => have := HEX.out; simp [strLen]; omega
    · have hlt' : (r.size : Int) < 4 := by omega
      have HX := Lib.hid (show unb s.data.toList = d by rw [HD.out, unb_short r (by omega)]; simp)
      clear HD
      obtain ⟨a1, c1, rfl, hS⟩ := Sl.ofOwns hown
      go_wp2_with fail
      refine (base64_any _ _ _ _ _ hS (by omega)).mono ?_
      rintro e wz ⟨rfl, hbz⟩
      have hWz := hW.trans (hbz.mono hW.size)
      by_cases hq : b64 d = s.toList
      · have HR2 := Lib.hid (show R = some d by rw [HR.out, unb64, HX.out, if_pos (by rw [hq]; exact HSL.out)])
        go_wp2_with fail
        go_ret2
        exact ⟨a1, _, c1, by rw [HR2.out]; rfl, by rw [HR2.out]; exact hS.after hbz, hWz⟩
      · have HR2 := Lib.hid (show R = none by rw [HR.out, unb64, HX.out, if_neg (by intro hh; exact hq (hh.trans HSL.out.symm))])
        replace hq : (b64 d == s.toList) = false := by simpa using hq
        go_wp2_with fail
        go_ret2
        exact ⟨none, 0, 0, by rw [HR2.out]; rfl, by rw [HR2.out]; exact sl_nil _, hWz⟩
end Go.Proofs.YtkbblhioncecmaaDoor
namespace Go.Proofs.YtkbblhioncecmaaDoor
open Go.RowKit

def isB (o : Option Nat) : Bool := o.isSome
def valOf (o : Option Nat) : Int := match o with | some v => v | none => 0
theorem hval_iv (n : Nat) : ((n < 48 ∨ (58 ≤ n ∧ n ≤ 64) ∨ (71 ≤ n ∧ n ≤ 96) ∨ 103 ≤ n) → hval n = none) ∧ (48 ≤ n ∧ n ≤ 57 → hval n = some (n - 48)) ∧ (97 ≤ n ∧ n ≤ 102 → hval n = some (n - 87)) ∧ (65 ≤ n ∧ n ≤ 70 → hval n = some (n - 55)) := by
  unfold hval
  refine ⟨fun h => ?_, fun h => ?_, fun h => ?_, fun h => ?_⟩ <;> repeat' split
  all_goals first | rfl | omega

set_option maxHeartbeats 1000000 in
set_option maxRecDepth 100000 in
theorem refValue_any (c : UInt8) (w : World) : Calls Tryd.prog 104 #[.int .u8 (c.toNat : Int)] w fun e w' => e = .returned (.tuple #[.int .u8 (valOf (hval c.toNat)), .bool (isB (hval c.toNat))]) ∧ w' = w := by
  obtain ⟨r, hr⟩ : ∃ r, r = hval c.toNat := ⟨_, rfl⟩
  have hb := c.toNat_lt
  have iv := hval_iv c.toNat
  rw [← hr] at iv ⊢
  have HI := Lib.hid iv
  have HR := Lib.hid hr
  clear iv hr
  have : (c.toNat : Int) < 48 ∨ ((48 : Int) ≤ c.toNat ∧ (c.toNat : Int) ≤ 57) ∨ ((58 : Int) ≤ c.toNat ∧ (c.toNat : Int) ≤ 64) ∨ ((65 : Int) ≤ c.toNat ∧ (c.toNat : Int) ≤ 70) ∨ ((71 : Int) ≤ c.toNat ∧ (c.toNat : Int) ≤ 96) ∨ ((97 : Int) ≤ c.toNat ∧ (c.toNat : Int) ≤ 102) ∨ (103 : Int) ≤ c.toNat := by omega
  rcases this with h | ⟨h, h'⟩ | ⟨h, h'⟩ | ⟨h, h'⟩ | ⟨h, h'⟩ | ⟨h, h'⟩ | h
  · obtain rfl := HI.out.1 (by omega)
    go_enter Tryd.func104, Tryd.ntmps104
    go_wp2_with fail
    go_ret2
    exact ⟨rfl, rfl⟩
  · obtain rfl := HI.out.2.1 (by omega)
    have EV := Lib.hid (show ((c.toNat - 48 : Nat) : Int) = (c.toNat : Int) - 48 by omega)
    go_enter Tryd.func104, Tryd.ntmps104
    go_wp2_with fail
    go_ret2
    refine ⟨?_, rfl⟩
    simp only [valOf, isB, Option.isSome]
    rw [EV.out]
    rfl
  · obtain rfl := HI.out.1 (by omega)
    go_enter Tryd.func104, Tryd.ntmps104
    go_wp2_with fail
    go_ret2
    exact ⟨rfl, rfl⟩
  · obtain rfl := HI.out.2.2.2 (by omega)
    have EV := Lib.hid (show ((c.toNat - 55 : Nat) : Int) = (c.toNat : Int) - 65 + 10 by omega)
    go_enter Tryd.func104, Tryd.ntmps104
    go_wp2_with fail
    go_ret2
    refine ⟨?_, rfl⟩
    simp only [valOf, isB, Option.isSome]
    rw [EV.out]
    rfl
  · obtain rfl := HI.out.1 (by omega)
    go_enter Tryd.func104, Tryd.ntmps104
    go_wp2_with fail
    go_ret2
    exact ⟨rfl, rfl⟩
  · obtain rfl := HI.out.2.2.1 (by omega)
    have EV := Lib.hid (show ((c.toNat - 87 : Nat) : Int) = (c.toNat : Int) - 97 + 10 by omega)
    go_enter Tryd.func104, Tryd.ntmps104
    go_wp2_with fail
    go_ret2
    refine ⟨?_, rfl⟩
    simp only [valOf, isB, Option.isSome]
    rw [EV.out]
    rfl
  · obtain rfl := HI.out.1 (by omega)
    go_enter Tryd.func104, Tryd.ntmps104
    go_wp2_with fail
    go_ret2
    exact ⟨rfl, rfl⟩

set_option maxHeartbeats 1000000 in
set_option maxRecDepth 100000 in
theorem refHex_any (a : Option Addr) (len cap : Nat) (l : List UInt8) (w : World) (hs : Sl w a len cap l) (hl : l.length ≤ 1000000) :
    Calls Tryd.prog 61 #[.slice a len cap] w fun e w' => e = .returned (.string ⟨(hexL l).toArray⟩) ∧ Below w.heap.size w w' := by
  have HN := Lib.hid hs.lt
  obtain ⟨hlen, hlc, hcm, hnil, hc⟩ := hs
  have HL := Lib.hid hlen
  have HC := Lib.hid hc
  have hl' : len ≤ 1000000 := by omega
  clear hlen hc hnil
  obtain ⟨i0, hi, hz0, hz1, hz2⟩ := info_parts bldInfo5
  have hown0 : (w.alloc (.cells #[] 5)).ownsRow w.heap.size 5 1 (.slice (some ⟨w.heap.size, 0, none⟩) 0 0) 0 (Lib.byteCells []) := World.ownsRow_lit w #[] 0 (Nat.le_refl _) (Nat.zero_le _) rfl
  have hW0 : Below w.heap.size w (w.alloc (.cells #[] 5)) := (Below.refl _ _).alloc (Nat.le_refl _) _
  go_enter Tryd.func61, Tryd.ntmps61
  go_wp2_with fail
  go_loopw [4, 9] (fun out i wr => ∃ k : Nat, k ≤ len ∧ i = .int .i64 k ∧ wr.ownsRow w.heap.size 5 1 out (2 * k) (Lib.byteCells (hexL (l.take k))) ∧ Below w.heap.size w wr) (fun _ i _ => len - (intOf i).toNat)
  case atStart => exact ⟨0, Nat.zero_le _, rfl, hown0, hW0⟩
  case round =>
    obtain ⟨k, hk, rfl, hown, hW⟩ := hrel
    clear hown0 hW0
    by_cases hlt : k < len
    · obtain ⟨b, o, rfl, hcc⟩ : ∃ b o, a = some ⟨b, o, none⟩ ∧ ∀ i, i < len → w.cell? ⟨b, o + i, none⟩ = some (.int .u8 ((l.getD i 0).toNat : Int)) := by
        rcases HC.out with hc | hc
        · omega
        · exact hc
      have hbw := HN.out b o (by omega) rfl
      obtain ⟨c, hcE⟩ : ∃ c, c = l.getD k 0 := ⟨_, rfl⟩
      have c0 : wr.cell? ⟨b, o + k, none⟩ = some (.int .u8 (c.toNat : Int)) := by rw [hW.cell hbw, hcE]; exact hcc k hlt
      have hcl := c.toNat_lt
      obtain ⟨k0, h0⟩ : ∃ k0 : Nat, k0 = c.toNat / 16 := ⟨_, rfl⟩
      obtain ⟨k1, h1⟩ : ∃ k1 : Nat, k1 = c.toNat % 16 := ⟨_, rfl⟩
      have f0 : (c.toNat : Int) / 16 = (k0 : Int) := by omega
      have f1 : (c.toNat : Int) % 16 = (k1 : Int) := by omega
      have f0' : (c.toNat : Int).tdiv 16 = (k0 : Int) := by rw [Int.tdiv_eq_ediv_of_nonneg (by omega)]; exact f0
      have f1' : (c.toNat : Int).tmod 16 = (k1 : Int) := by rw [Int.tmod_eq_emod_of_nonneg (by omega)]; exact f1
      have f2 : IntKind.u8.wrap (k0 : Int) = (k0 : Int) := by rw [IntKind.wrap_u8]; omega
      have f3 : IntKind.u8.wrap (k1 : Int) = (k1 : Int) := by rw [IntKind.wrap_u8]; omega
      have d0 : (k0 : Int) < 16 := by omega
      have d1 : (k1 : Int) < 16 := by omega
      have b0 : k0 < 16 := by omega
      have b1 : k1 < 16 := by omega
      have HE := Lib.hid (show hexL (l.take (k + 1)) = hexL (l.take k) ++ [hxd k0, hxd k1] by
        rw [take_snoc l k (by have := HL.out; omega), hexL_snoc, ← hcE, h0, h1])
      clear hcE hcc h0 h1
      go_wp2_with fail
      have e0 := hxd_eq k0 b0
      have e1 := hxd_eq k1 b1
      unfold hexB at e0 e1
      go_region_law (refine step_append_sl rfl (.tmp 12) (.tmp 27) 23 rfl w.heap.size 5 i0 Tryd.underlying23 hi hz0 hz1 hz2 _ (2 * k) (hexL (l.take k)) rfl (hown.alloc _) (some ⟨wr.heap.size, 0, none⟩) 2 2 [hxd k0, hxd k1] rfl (sl_two _ _ _ _ (cell_two_of wr _ _ _ rfl).1 (cell_two_of wr _ _ _ rfl).2) (by omega) (by have := hW.size; simp; omega) ?_; intro v1 w1 hown1 hg1)
      all_goals
        have hW1 := ((hW.alloc hW.size _).drew).grown hg1 (by have := hW.size; simp; omega) (fun j hj => (hown.lt j hj).1)
        rw [← HE.out] at hown1
        go_wp2_with fail
        go_roundw
        case rel => exact ⟨k + 1, by omega, by go_num, hown1, hW1⟩
        case measure => simp [intOf]; omega
    · obtain rfl : k = len := by omega
      have hall : l.take k = l := List.take_of_length_le (by have := HL.out; omega)
      rw [hall] at hown
      clear hall
      obtain ⟨a1, c1, rfl, hS⟩ := Sl.ofOwns hown
      have hcv := conv_sl hS
      go_wp2_with fail
      go_ret
      exact ⟨rfl, hW⟩

theorem refUnhex_step (s : ByteArray) (k : Nat) (hk : k + 1 < s.size) (R : Option (List UInt8)) (d : List UInt8) (h : R = (unhex (s.data.toList.drop k)).map (d ++ ·)) (x y : Nat)
    (hx : hval (s[k]'(by omega)).toNat = some x) (hy : hval (s[k + 1]'hk).toNat = some y) : R = (unhex (s.data.toList.drop (k + 2))).map ((d ++ [UInt8.ofNat (16 * x + y)]) ++ ·) := by
  rw [h, unhex_drop s k hk, hx, hy]; simp [Function.comp_def]
theorem refUnhex_fall (s : ByteArray) (k : Nat) (hk : k + 1 < s.size) (R : Option (List UInt8)) (d : List UInt8) (h : R = (unhex (s.data.toList.drop k)).map (d ++ ·))
    (hx : hval (s[k]'(by omega)).toNat = none ∨ hval (s[k + 1]'hk).toNat = none) : R = none := by
  rw [h, unhex_drop s k hk]
  rcases hx with hx | hx
  · rw [hx]; rfl
  · rw [hx]; split <;> simp_all

set_option maxHeartbeats 2000000 in
set_option maxRecDepth 100000 in
theorem refUnhex_any (s : ByteArray) (w : World) (hs : s.size ≤ 1000000000) :
    Calls Tryd.prog 93 #[.string s] w (Gave (unhex s.data.toList) (.bool (unhex s.data.toList).isSome) w.heap.size w) := by
  obtain ⟨R, hR⟩ : ∃ R, R = unhex s.data.toList := ⟨_, rfl⟩
  rw [← hR]
  have HR := Lib.hid hR
  clear hR
  obtain ⟨i0, hi, hz0, hz1, hz2⟩ := info_parts bldInfo5
  have hown0 : (w.alloc (.cells #[] 5)).ownsRow w.heap.size 5 1 (.slice (some ⟨w.heap.size, 0, none⟩) 0 0) 0 (Lib.byteCells []) := World.ownsRow_lit w #[] 0 (Nat.le_refl _) (Nat.zero_le _) rfl
  have hW0 : Below w.heap.size w (w.alloc (.cells #[] 5)) := (Below.refl _ _).alloc (Nat.le_refl _) _
  have hempty : ∀ (w : World), Sl (w.alloc (.cells #[] 5)) (some ⟨w.heap.size, 0, none⟩) 0 0 [] := fun w => ⟨rfl, Nat.le_refl _, Nat.zero_le _, (fun h => by cases h), .inl rfl⟩
  by_cases ho : s.size % 2 = 1
  · have hodd : R = none := by rw [HR.out]; exact unhex_odd _ (by simpa using ho)
    subst hodd
    have h1 : (1 : Int) ≤ (s.size : Int) % 2 := by omega
    have h1' : (s.size : Int) % 2 ≤ 1 := by omega
    go_enter Tryd.func93, Tryd.ntmps93
    go_wp2_with fail
    go_ret2
    exact ⟨_, 0, 0, rfl, hempty w, hW0⟩
  · have h1 : (((s.size : Int) % 2) == 1) = false := by simp; omega
    have H2 := Lib.hid (show s.size % 2 = 0 by omega)
    clear ho
    go_enter Tryd.func93, Tryd.ntmps93
    go_wp2_with fail
    clear h1
    go_loopw [4, 5] (fun out i wr => ∃ (k : Nat) (d : List UInt8), k ≤ s.size ∧ Hid (k % 2 = 0) ∧ i = .int .i64 k ∧ wr.ownsRow w.heap.size 5 1 out d.length (Lib.byteCells d) ∧ Hid (R = (unhex (s.data.toList.drop k)).map (d ++ ·)) ∧ d.length ≤ k ∧ Below w.heap.size w wr)
      (fun _ i _ => s.size - (intOf i).toNat)
    case atStart => exact ⟨0, [], Nat.zero_le _, Lib.hid rfl, rfl, hown0, Lib.hid (by rw [HR.out]; simp), Nat.le_refl _, hW0⟩
    case round =>
      obtain ⟨k, d, hk, HK, rfl, hown, HD, hdl, hW⟩ := hrel
      clear hown0 hW0
      by_cases hlt : k < s.size
      · have hk1 : k + 1 < s.size := by have := HK.out; have := H2.out; omega
        obtain ⟨c1, hc1⟩ : ∃ c1, c1 = s[k]'hlt := ⟨_, rfl⟩
        obtain ⟨c2, hc2⟩ : ∃ c2, c2 = s[k + 1]'hk1 := ⟨_, rfl⟩
        have HF := Lib.hid (refUnhex_fall s k hk1 R d HD.out)
        have HS := Lib.hid (refUnhex_step s k hk1 R d HD.out)
        rw [← hc1, ← hc2] at HF HS
        have e1 := hc1.symm
        have e2 := hc2.symm
        clear hc1 hc2
        cases h1 : hval c1.toNat with
        | none =>
          have HV := Lib.hid (HF.out (.inl h1))
          have q1 : isB (hval c1.toNat) = false := by rw [h1]; rfl
          clear h1 HF HS HD
          go_wp2_with fail
          refine (refValue_any _ _).mono ?_
          rintro e wx ⟨rfl, rfl⟩
          go_wp2_with fail
          refine (refValue_any _ _).mono ?_
          rintro e wx ⟨rfl, rfl⟩
          go_wp2_with fail
          go_ret2
          exact ⟨_, 0, 0, by rw [HV.out]; rfl, by rw [HV.out]; exact hempty _, hW.alloc hW.size _⟩
        | some x =>
          cases h2 : hval c2.toNat with
          | none =>
            have HV := Lib.hid (HF.out (.inr h2))
            have q1 : isB (hval c1.toNat) = true := by rw [h1]; rfl
            have q2 : isB (hval c2.toNat) = false := by rw [h2]; rfl
            clear h1 h2 HF HS HD
            go_wp2_with fail
            refine (refValue_any _ _).mono ?_
            rintro e wx ⟨rfl, rfl⟩
            go_wp2_with fail
            refine (refValue_any _ _).mono ?_
            rintro e wx ⟨rfl, rfl⟩
            go_wp2_with fail
            go_ret2
            exact ⟨_, 0, 0, by rw [HV.out]; rfl, by rw [HV.out]; exact hempty _, hW.alloc hW.size _⟩
          | some y =>
            have q1 : isB (hval c1.toNat) = true := by rw [h1]; rfl
            have q2 : isB (hval c2.toNat) = true := by rw [h2]; rfl
            have q1' : valOf (hval c1.toNat) = (x : Int) := by rw [h1]; rfl
            have q2' : valOf (hval c2.toNat) = (y : Int) := by rw [h2]; rfl
            have lx := hval_lt _ _ h1
            have ly := hval_lt _ _ h2
            have HV := Lib.hid (HS.out x y h1 h2)
            obtain ⟨z, hz⟩ : ∃ z : Nat, z = 16 * x + y := ⟨_, rfl⟩
            rw [← hz] at HV
            have q3 : 16 * (x : Int) + (y : Int) = (z : Int) := by omega
            have lz : z < 256 := by omega
            clear h1 h2 HF HS HD hz
            go_wp2_with fail
            refine (refValue_any _ _).mono ?_
            rintro e wx ⟨rfl, rfl⟩
            go_wp2_with fail
            refine (refValue_any _ _).mono ?_
            rintro e wx ⟨rfl, rfl⟩
            go_wp2_with (at_builtin; go_loud (refine wpList_append_sl rfl (.tmp 44) (.tmp 49) 23 rfl w.heap.size 5 i0 Tryd.underlying23 hi hz0 hz1 hz2 _ d.length d rfl (hown.alloc _) (some ⟨World.heap _ |>.size, 0, none⟩) 1 1 [UInt8.ofNat z] rfl (sl_cell_nat _ _ z lz (cell_new _ _ _ rfl)) (by omega) (by have := hW.size; simp; omega) ?_); intro v1 w1 hown1 hg1)
            have hW1 := (hW.alloc hW.size _).grown hg1 (by have := hW.size; simp; omega) (fun k hk => (hown.lt k hk).1)
            go_wp2_with fail
            go_roundw
            case rel => exact ⟨k + 2, d ++ [UInt8.ofNat z], by omega, Lib.hid (by have := HK.out; omega), by go_num, by simpa using hown1, HV, by simp; omega, hW1⟩
            case measure => simp [intOf]; omega
      · obtain rfl : k = s.size := by omega
        have HV := Lib.hid (show R = some d by
          have := HD.out; rw [List.drop_of_length_le (by simp)] at this; simpa [unhex] using this)
        clear HD
        go_wp2_with fail
        obtain ⟨a, c, rfl, hsl⟩ := Sl.ofOwns hown
        go_ret2
        exact ⟨a, d.length, c, by rw [HV.out]; rfl, by rw [HV.out]; exact hsl, hW⟩
end Go.Proofs.YtkbblhioncecmaaDoor
namespace Go.Proofs.YtkbblhioncecmaaDoor
open Go.RowKit

set_option maxHeartbeats 1000000 in
set_option maxRecDepth 100000 in
theorem refbit_any (a : Option Addr) (len cap : Nat) (l : List UInt8) (i : Int) (w : World) (hs : Sl w a len cap l) (hi : 0 ≤ i) (hi2 : i ≤ 1000000000) :
    Calls Tryd.prog 29 #[.slice a len cap, .int .i64 i] w fun e w' => e = .returned (.int .u8 (bitL l i.toNat : Nat)) ∧ w' = w := by
  obtain ⟨n, rfl⟩ := Int.eq_ofNat_of_zero_le hi
  rw [Int.toNat_natCast]
  clear hi
  obtain ⟨hlen, hlc, hcm, hnil, hc⟩ := hs
  have HL := Lib.hid hlen
  have HC := Lib.hid hc
  clear hlen hc hnil
  obtain ⟨R, hR⟩ : ∃ R, R = bitL l n := ⟨_, rfl⟩
  rw [← hR]
  have HR := Lib.hid hR
  clear hR
  by_cases hge : len ≤ n / 8
  · obtain rfl : R = 0 := by
      rw [HR.out, bitL, List.getD_eq_getElem?_getD, List.getElem?_eq_none (by rw [← HL.out]; exact hge)]; simp
    have h1 : (len : Int) ≤ (n : Int) / 8 := by omega
    go_enter Tryd.func29, Tryd.ntmps29
    go_wp2_with fail
    go_ret
    exact ⟨rfl, rfl⟩
  · have h1 : (n : Int) / 8 < (len : Int) := by omega
    obtain ⟨b, o, rfl, hcc⟩ : ∃ b o, a = some ⟨b, o, none⟩ ∧ ∀ i, i < len → w.cell? ⟨b, o + i, none⟩ = some (.int .u8 ((l.getD i 0).toNat : Int)) := by
      rcases HC.out with hc | hc
      · omega
      · exact hc
    have c0 := hcc (n / 8) (by omega)
    obtain ⟨c, hcE⟩ : ∃ c, c = (l.getD (n / 8) 0).toNat := ⟨_, rfl⟩
    have hc8 : c < 256 := by rw [hcE]; exact UInt8.toNat_lt _
    rw [← hcE] at c0
    have HE := Lib.hid hcE
    clear hcE hcc hge
    obtain ⟨m, hm⟩ : ∃ m, m = 7 - n % 8 := ⟨_, rfl⟩
    have hm2 : 7 - (n : Int) % 8 = (m : Int) := by omega
    have HM := Lib.hid hm
    clear hm
    go_enter Tryd.func29, Tryd.ntmps29
    go_wp2_with fail
    go_loop [5, 6] (fun s t => ∃ (k x : Nat), k ≤ m ∧ t = .int .i64 k ∧ s = .int .u8 x ∧ x < 256 ∧ Hid (x = c / 2 ^ k)) (fun _ t => m - (intOf t).toNat)
    case atStart => exact ⟨0, c, Nat.zero_le _, rfl, rfl, hc8, Lib.hid (by simp)⟩
    case round =>
      obtain ⟨k, x, hk, rfl, rfl, hx, HX⟩ := hrel
      by_cases hlt : k < m
      · go_wp2_with fail
        go_round
        case rel => exact ⟨k + 1, x / 2, by omega, by go_num, by go_num, by omega, Lib.hid (by rw [HX.out, Nat.pow_succ, Nat.div_div_eq_div_mul])⟩
        case measure => simp [intOf]; omega
      · obtain rfl : k = m := by omega
        have hR2 := Lib.hid (show (R : Int) = (x : Int) % 2 by rw [HR.out, bitL, ← HE.out, ← HM.out, HX.out]; simp)
        go_wp2_with fail
        go_ret
        exact ⟨by rw [hR2.out]; rfl, rfl⟩

set_option maxHeartbeats 2000000 in
set_option maxRecDepth 100000 in
theorem refB64_any (a : Option Addr) (len cap : Nat) (l : List UInt8) (w : World) (hs : Sl w a len cap l) (hl : l.length ≤ 1000000) :
    Calls Tryd.prog 14 #[.slice a len cap] w fun e w' => e = .returned (.string ⟨(b64 l).toArray⟩) ∧ Below w.heap.size w w' := by
  rw [← refB64_eq]
  have HL := Lib.hid hs.1
  have HS := Lib.hid hs
  have hl' : len ≤ 1000000 := by have := hs.1; omega
  clear hs
  obtain ⟨i0, hi, hz0, hz1, hz2⟩ := info_parts bldInfo5
  have hown0 : (w.alloc (.cells #[] 5)).ownsRow w.heap.size 5 1 (.slice (some ⟨w.heap.size, 0, none⟩) 0 0) 0 (Lib.byteCells []) := World.ownsRow_lit w #[] 0 (Nat.le_refl _) (Nat.zero_le _) rfl
  have hW0 : Below w.heap.size w (w.alloc (.cells #[] 5)) := (Below.refl _ _).alloc (Nat.le_refl _) _
  obtain ⟨J, hJ⟩ : ∃ J, J = (8 * len + 5) / 6 := ⟨_, rfl⟩
  have hJ1 : 6 * J ≤ 8 * len + 5 := by omega
  have hJ2 : 8 * len ≤ 6 * J := by omega
  have HJ := Lib.hid hJ
  clear hJ
  go_enter Tryd.func14, Tryd.ntmps14
  go_wp2_with fail
  go_loopw [4, 5] (fun out i wr => ∃ j : Nat, j ≤ J ∧ i = .int .i64 (6 * (j : Int)) ∧ wr.ownsRow w.heap.size 5 1 out j (Lib.byteCells (sgnsTo l j)) ∧ Below w.heap.size w wr) (fun _ i _ => 6 * J - (intOf i).toNat)
  case atStart => exact ⟨0, Nat.zero_le _, rfl, hown0, hW0⟩
  case round =>
    obtain ⟨j, hj, rfl, hown, hW⟩ := hrel
    clear hown0 hW0
    by_cases hlt : 6 * j < 8 * len
    · have hlt' : 6 * (j : Int) < 8 * (len : Int) := by omega
      have hjJ : j < J := by omega
      go_wp2_with fail
      go_loopw [6, 7] (fun s t wq => ∃ k : Nat, k ≤ 6 ∧ t = .int .i64 k ∧ s = .int .u8 (grpK l (6 * j) k : Nat) ∧ wr = wq) (fun _ t _ => 6 - (intOf t).toNat)
      case atStart => exact ⟨0, by omega, rfl, rfl, rfl⟩
      case round =>
        obtain ⟨k, hk, rfl, rfl, rfl⟩ := hrel
        by_cases hk6 : k < 6
        · have hS := HS.out.after hW
          have hgk := grpK_lt l (6 * j) k
          have hgk2 : grpK l (6 * j) k < 64 := Nat.lt_of_lt_of_le hgk (Nat.pow_le_pow_right (by omega) hk)
          have hgk3 := grpK_lt l (6 * j) (k + 1)
          have hgk4 : grpK l (6 * j) (k + 1) < 128 := Nat.lt_of_lt_of_le hgk3 (Nat.pow_le_pow_right (n := 2) (by omega) (show k + 1 ≤ 7 by omega))
          have hb := bitL_lt l (6 * j + k)
          obtain ⟨x, hx⟩ : ∃ x, x = grpK l (6 * j) k := ⟨_, rfl⟩
          obtain ⟨y, hy⟩ : ∃ y, y = bitL l (6 * j + k) := ⟨_, rfl⟩
          have HG := Lib.hid (show grpK l (6 * j) (k + 1) = 2 * x + y by rw [hx, hy]; rfl)
          have HY := Lib.hid hy
          rw [← hx]
          rw [← hx] at hgk2
          rw [← hy] at hb
          clear hgk hgk3 hgk4 hx hy
          go_wp2_with fail
          refine (refbit_any _ _ _ _ _ _ hS (by omega) (by omega)).mono ?_
          rintro e wx ⟨rfl, rfl⟩
          rw [show (6 * (j : Int) + (k : Int)).toNat = 6 * j + k by omega, ← HY.out]
          go_wp2_with fail
          go_roundw
          case rel => exact ⟨k + 1, by omega, by go_num, by rw [HG.out]; go_num, trivial⟩
          case measure => simp [intOf]; omega
        · obtain rfl : k = 6 := by omega
          have hg := grp_lt l (6 * j)
          obtain ⟨x, hx⟩ : ∃ x, x = grp l (6 * j) := ⟨_, rfl⟩
          have HX := Lib.hid (show sgnsTo l (j + 1) = sgnsTo l j ++ [sgn x] by rw [hx, sgnsTo_succ])
          rw [show grpK l (6 * j) 6 = x from hx.symm]
          rw [← hx] at hg
          have es := sgn_eq x hg
          unfold signs at es
          clear hx
          go_wp2_with (at_builtin; go_loud (refine wpList_append_sl rfl (.tmp 28) (.tmp 32) 23 rfl w.heap.size 5 i0 Tryd.underlying23 hi hz0 hz1 hz2 _ j (sgnsTo l j) rfl (hown.alloc _) (some ⟨wr.heap.size, 0, none⟩) 1 1 [sgn x] rfl (sl_cell _ _ _ (cell_new wr _ _ rfl)) (by omega) (by have := hW.size; simp; omega) ?_); intro v1 w1 hown1 hg1)
          have hW1 := (hW.alloc hW.size _).grown hg1 (by have := hW.size; simp; omega) (fun t ht => (hown.lt t ht).1)
          rw [← HX.out] at hown1
          go_wp2_with fail
          go_roundw
          case rel => exact ⟨j + 1, by omega, by go_num, hown1, hW1⟩
          case measure => simp [intOf]; omega
    · obtain rfl : j = J := by omega
      have hlt' : 8 * (len : Int) ≤ 6 * (j : Int) := by omega
      have HB := Lib.hid (show refB64 l = padTo (sgnsTo l j) by rw [refB64, ← HL.out, ← HJ.out])
      have HN := Lib.hid (sgnsTo_len l j)
      obtain ⟨X, hX⟩ : ∃ X, X = sgnsTo l j := ⟨_, rfl⟩
      rw [← hX] at hown HB HN
      obtain ⟨p, hp⟩ : ∃ p, p = (4 - j % 4) % 4 := ⟨_, rfl⟩
      have HP := Lib.hid hp
      have hp4 : p < 4 := by omega
      clear hp hX
      go_wp2_with fail
      go_loopw [4] (fun out wq => ∃ k : Nat, k ≤ p ∧ wq.ownsRow w.heap.size 5 1 out (j + k) (Lib.byteCells (X ++ List.replicate k 61)) ∧ Below w.heap.size w wq) (fun out _ => j + p - slLen out)
      case atStart => exact ⟨0, Nat.zero_le _, by simpa using hown, hW⟩
      case round =>
        obtain ⟨k, hk, hown', hW'⟩ := hrel
        clear hown hW
        obtain ⟨a1, c1, rfl, hS⟩ := Sl.ofOwns hown'
        by_cases hkp : k < p
        · have hne : (((j : Int) + (k : Int)) % 4 != 0) = true := by have := HP.out; rw [bne_iff_ne]; omega
          have hrep := Lib.hid (show X ++ List.replicate k 61 ++ [61] = X ++ List.replicate (k + 1) 61 by rw [List.append_assoc, ← List.replicate_succ'])
          go_wp2_with (at_builtin; go_loud (refine wpList_append_sl rfl (.tmp 38) (.tmp 39) 23 rfl w.heap.size 5 i0 Tryd.underlying23 hi hz0 hz1 hz2 _ (j + k) (X ++ List.replicate k 61) rfl (hown'.alloc _) _ 1 1 [61] rfl (sl_cell _ _ 61 (cell_new _ _ _ rfl)) (by omega) (by have := hW'.size; simp; omega) ?_); intro v1 w1 hown1 hg1)
          have hW1 := (hW'.alloc hW'.size _).grown hg1 (by have := hW'.size; simp; omega) (fun t ht => (hown'.lt t ht).1)
          rw [hrep.out] at hown1
          obtain ⟨a2, c2, rfl, hS2⟩ := Sl.ofOwns hown1
          go_wp2_with fail
          go_roundw
          case rel => exact ⟨k + 1, by omega, hown1, hW1⟩
          case measure => simp [slLen]; omega
        · obtain rfl : k = p := by omega
          have hne : (((j : Int) + (k : Int)) % 4 != 0) = false := by have := HP.out; rw [bne_eq_false_iff_eq]; omega
          have hcv := conv_sl hS
          go_wp2_with fail
          go_ret
          exact ⟨by rw [HB.out, padTo, HN.out, ← HP.out]; rfl, hW'⟩
end Go.Proofs.YtkbblhioncecmaaDoor
namespace Go.Proofs.YtkbblhioncecmaaDoor
open Go.RowKit

/-- what 'sign' hands back -/
def SignOf (o : Option Nat) (w : World) (e : Ending) (w' : World) : Prop := ∃ v : Int, e = .returned (.tuple #[.int .u8 v, .bool o.isSome]) ∧ (∀ k : Nat, o = some k → v = k) ∧ w = w'

theorem sval_at (n : Nat) : ((n ≤ 42 ∨ (44 ≤ n ∧ n ≤ 46) ∨ (58 ≤ n ∧ n ≤ 64) ∨ (91 ≤ n ∧ n ≤ 96) ∨ 123 ≤ n) → sval n = none) ∧ (n = 43 → sval n = some 62) ∧ (n = 47 → sval n = some 63) ∧
    (48 ≤ n ∧ n ≤ 57 → sval n = some (n + 4)) ∧ (65 ≤ n ∧ n ≤ 90 → sval n = some (n - 65)) ∧ (97 ≤ n ∧ n ≤ 122 → sval n = some (n - 71)) := by
  unfold sval
  refine ⟨fun h => ?_, fun h => ?_, fun h => ?_, fun h => ?_, fun h => ?_, fun h => ?_⟩ <;> repeat' split
  all_goals first | rfl | omega

set_option maxHeartbeats 1600000 in
set_option maxRecDepth 100000 in
theorem refsign_any (c : UInt8) (w : World) : Calls Tryd.prog 105 #[.int .u8 (c.toNat : Int)] w (SignOf (sval c.toNat) w) := by
  obtain ⟨r, hr⟩ : ∃ r, r = sval c.toNat := ⟨_, rfl⟩
  have hb := c.toNat_lt
  have iv := sval_at c.toNat
  rw [← hr] at iv ⊢
  have HI := Lib.hid iv
  clear iv hr
  have : (((c.toNat : Int) ≤ 42)) ∨ (((43 : Int) ≤ (c.toNat : Int)) ∧ ((c.toNat : Int) ≤ 43)) ∨ (((44 : Int) ≤ (c.toNat : Int)) ∧ ((c.toNat : Int) ≤ 46)) ∨ (((47 : Int) ≤ (c.toNat : Int)) ∧ ((c.toNat : Int) ≤ 47)) ∨ (((48 : Int) ≤ (c.toNat : Int)) ∧ ((c.toNat : Int) ≤ 57)) ∨ (((58 : Int) ≤ (c.toNat : Int)) ∧ ((c.toNat : Int) ≤ 64)) ∨ (((65 : Int) ≤ (c.toNat : Int)) ∧ ((c.toNat : Int) ≤ 90)) ∨ (((91 : Int) ≤ (c.toNat : Int)) ∧ ((c.toNat : Int) ≤ 96)) ∨ (((97 : Int) ≤ (c.toNat : Int)) ∧ ((c.toNat : Int) ≤ 122)) ∨ (((123 : Int) ≤ (c.toNat : Int))) := by omega
  rcases this with h | ⟨h, h'⟩ | ⟨h, h'⟩ | ⟨h, h'⟩ | ⟨h, h'⟩ | ⟨h, h'⟩ | ⟨h, h'⟩ | ⟨h, h'⟩ | ⟨h, h'⟩ | h
  · obtain rfl := HI.out.1 (by omega)
    have q : ((c.toNat : Int) == 47) = false := by rw [beq_eq_false_iff_ne]; omega
    go_enter Tryd.func105, Tryd.ntmps105
    go_wp2_with fail
    go_ret2
    exact ⟨_, rfl, (fun k hk => by cases hk), rfl⟩
  · obtain rfl := HI.out.2.1 (by omega)
    have EV := Lib.hid (show ((62 : Nat) : Int) = 62 by omega)
    go_enter Tryd.func105, Tryd.ntmps105
    go_wp2_with fail
    go_ret2
    exact ⟨_, rfl, (fun k hk => by injection hk with hk; subst hk; rfl), rfl⟩
  · obtain rfl := HI.out.1 (by omega)
    have q : ((c.toNat : Int) == 47) = false := by rw [beq_eq_false_iff_ne]; omega
    go_enter Tryd.func105, Tryd.ntmps105
    go_wp2_with fail
    go_ret2
    exact ⟨_, rfl, (fun k hk => by cases hk), rfl⟩
  · obtain rfl := HI.out.2.2.1 (by omega)
    have q : ((c.toNat : Int) == 47) = true := by rw [beq_iff_eq]; omega
    have EV := Lib.hid (show ((63 : Nat) : Int) = 63 by omega)
    go_enter Tryd.func105, Tryd.ntmps105
    go_wp2_with fail
    go_ret2
    exact ⟨_, rfl, (fun k hk => by injection hk with hk; subst hk; rfl), rfl⟩
  · obtain rfl := HI.out.2.2.2.1 (by omega)
    have EV := Lib.hid (show (c.toNat : Int) - 48 + 52 = ((c.toNat + 4 : Nat) : Int) by omega)
    go_enter Tryd.func105, Tryd.ntmps105
    go_wp2_with fail
    go_ret2
    exact ⟨_, rfl, (fun k hk => by injection hk with hk; subst hk; exact EV.out), rfl⟩
  · obtain rfl := HI.out.1 (by omega)
    have q : ((c.toNat : Int) == 47) = false := by rw [beq_eq_false_iff_ne]; omega
    go_enter Tryd.func105, Tryd.ntmps105
    go_wp2_with fail
    go_ret2
    exact ⟨_, rfl, (fun k hk => by cases hk), rfl⟩
  · obtain rfl := HI.out.2.2.2.2.1 (by omega)
    have EV := Lib.hid (show (c.toNat : Int) - 65 = ((c.toNat - 65 : Nat) : Int) by omega)
    go_enter Tryd.func105, Tryd.ntmps105
    go_wp2_with fail
    go_ret2
    exact ⟨_, rfl, (fun k hk => by injection hk with hk; subst hk; exact EV.out), rfl⟩
  · obtain rfl := HI.out.1 (by omega)
    have q : ((c.toNat : Int) == 47) = false := by rw [beq_eq_false_iff_ne]; omega
    go_enter Tryd.func105, Tryd.ntmps105
    go_wp2_with fail
    go_ret2
    exact ⟨_, rfl, (fun k hk => by cases hk), rfl⟩
  · obtain rfl := HI.out.2.2.2.2.2 (by omega)
    have EV := Lib.hid (show (c.toNat : Int) - 97 + 26 = ((c.toNat - 71 : Nat) : Int) by omega)
    go_enter Tryd.func105, Tryd.ntmps105
    go_wp2_with fail
    go_ret2
    exact ⟨_, rfl, (fun k hk => by injection hk with hk; subst hk; exact EV.out), rfl⟩
  · obtain rfl := HI.out.1 (by omega)
    have q : ((c.toNat : Int) == 47) = false := by rw [beq_eq_false_iff_ne]; omega
    go_enter Tryd.func105, Tryd.ntmps105
    go_wp2_with fail
    go_ret2
    exact ⟨_, rfl, (fun k hk => by cases hk), rfl⟩
end Go.Proofs.YtkbblhioncecmaaDoor
namespace Go.Proofs.YtkbblhioncecmaaDoor
open Go.RowKit

def hor (b : List Nat) (i : Nat) : Nat → Nat
  | 0 => 0
  | k + 1 => 2 * hor b i k + b.getD (i + k) 0
def packTo (b : List Nat) (j : Nat) : List UInt8 := (List.range j).map fun t => UInt8.ofNat (hor b (8 * t) 8)
theorem packTo_succ (b : List Nat) (j : Nat) : packTo b (j + 1) = packTo b j ++ [UInt8.ofNat (hor b (8 * j) 8)] := by simp [packTo, List.range_succ]
theorem getD_lt (b : List Nat) (h : ∀ x ∈ b, x < 2) (i : Nat) : b.getD i 0 < 2 := by
  rw [List.getD_eq_getElem?_getD]
  cases e : b[i]? with
  | none => simp
  | some x => simp; exact h x (List.mem_of_getElem? e)
theorem hor_lt (b : List Nat) (h : ∀ x ∈ b, x < 2) (i k : Nat) : hor b i k < 2 ^ k := by
  induction k with
  | zero => simp [hor]
  | succ k ih => have := getD_lt b h (i + k); simp only [hor, Nat.pow_succ]; omega
theorem map_getD (b : List Nat) (h : ∀ x ∈ b, x < 2) (i : Nat) : ((b.map UInt8.ofNat).getD i 0).toNat = b.getD i 0 := by
  rw [List.getD_eq_getElem?_getD, List.getD_eq_getElem?_getD, List.getElem?_map]
  cases e : b[i]? with
  | none => simp
  | some x => have := h x (List.mem_of_getElem? e); simp; omega
theorem hor_cons (a b c d e f g h : Nat) (t : List Nat) (i : Nat) : ∀ k, hor (a :: b :: c :: d :: e :: f :: g :: h :: t) (8 + i) k = hor t i k := by
  intro k
  induction k with
  | zero => rfl
  | succ k ih => simp only [hor, ih]; rw [show 8 + i + k = i + k + 8 by omega]; rfl
theorem packTo_all (b : List Nat) : packTo b (b.length / 8) = pack b := by
  induction b using pack.induct with
  | case1 a b c d e f g h t ih =>
    rw [show (a :: b :: c :: d :: e :: f :: g :: h :: t).length / 8 = t.length / 8 + 1 by simp; omega]
    rw [pack, ← ih]
    unfold packTo
    rw [List.range_succ_eq_map]
    simp only [List.map_cons, List.map_map]
    refine List.cons_eq_cons.2 ⟨?_, ?_⟩
    · congr 1; simp [hor]; omega
    · apply List.map_congr_left
      intro i _
      simp only [Function.comp]
      rw [show 8 * Nat.succ i = 8 + 8 * i by omega, hor_cons]
  | case2 l hl =>
    have hlen : l.length < 8 := by
      match l, hl with
      | [], _ => simp
      | [_], _ => simp
      | [_, _], _ => simp
      | [_, _, _], _ => simp
      | [_, _, _, _], _ => simp
      | [_, _, _, _, _], _ => simp
      | [_, _, _, _, _, _], _ => simp
      | [_, _, _, _, _, _, _], _ => simp
      | a :: b :: c :: d :: e :: f :: g :: h :: t, hl => exact (hl a b c d e f g h t rfl).elim
    rw [Nat.div_eq_of_lt hlen]
    unfold pack
    split <;> first | rfl | exact (hl _ _ _ _ _ _ _ _ _ rfl).elim
theorem bitsOf_drop (s : ByteArray) (k : Nat) (hk : k < s.size) : bitsOf (s.data.toList.drop k) = match sval (s[k]'hk).toNat with
    | some n => [n / 32 % 2, n / 16 % 2, n / 8 % 2, n / 4 % 2, n / 2 % 2, n % 2] ++ bitsOf (s.data.toList.drop (k + 1))
    | none => [] := by
  have h1 : k < s.data.toList.length := by simpa using hk
  rw [List.drop_eq_getElem_cons h1]
  rfl

set_option maxHeartbeats 8000000 in
set_option maxRecDepth 100000 in
theorem refUnb_any (s : ByteArray) (w : World) (hs : s.size ≤ 100000) :
    Calls Tryd.prog 94 #[.string s] w (Gave (unb64 s.data.toList) (.bool (unb64 s.data.toList).isSome) w.heap.size w) := by
  obtain ⟨R, hR⟩ : ∃ R, R = unb64 s.data.toList := ⟨_, rfl⟩
  rw [← hR]
  have HR := Lib.hid hR
  have HSL := Lib.hid (show s.toList = s.data.toList from Lib.toList_data s)
  clear hR
  obtain ⟨i0, hi, hz0, hz1, hz2⟩ := info_parts bldInfo5
  have hown0 : (w.alloc (.cells #[] 5)).ownsRow w.heap.size 5 1 (.slice (some ⟨w.heap.size, 0, none⟩) 0 0) 0 (Lib.byteCells []) := World.ownsRow_lit w #[] 0 (Nat.le_refl _) (Nat.zero_le _) rfl
  have hW0 : Below w.heap.size w (w.alloc (.cells #[] 5)) := (Below.refl _ _).alloc (Nat.le_refl _) _
  have hempty : ∀ (w : World), Sl (w.alloc (.cells #[] 5)) (some ⟨w.heap.size, 0, none⟩) 0 0 [] := fun w => ⟨rfl, Nat.le_refl _, Nat.zero_le _, (fun h => by cases h), .inl rfl⟩
  go_enter Tryd.func94, Tryd.ntmps94
  go_wp2_with fail
  go_loopw [4, 5] (fun bits i wr => ∃ (j : Nat) (bN : List Nat), j ≤ s.size ∧ i = .int .i64 j ∧ wr.ownsRow w.heap.size 5 1 bits bN.length (Lib.byteCells (bN.map UInt8.ofNat)) ∧ Hid (∀ x ∈ bN, x < 2) ∧ Hid (bitsOf s.data.toList = bN ++ bitsOf (s.data.toList.drop j)) ∧ bN.length ≤ 6 * j ∧ Below w.heap.size w wr) (fun _ i _ => s.size - (intOf i).toNat)
  case atStart => exact ⟨0, [], Nat.zero_le _, rfl, hown0, Lib.hid (by simp), Lib.hid (by simp), by simp, hW0⟩
  case round =>
    obtain ⟨wa, rfl⟩ : ∃ wa : World, wa = wr := ⟨_, rfl⟩
    obtain ⟨j, bN, hj, rfl, hown, hN, HB, hnl, hW⟩ := hrel
    clear hown0 hW0
    by_cases hlt : j < s.size
    · obtain ⟨c, hc⟩ : ∃ c, c = s[j]'hlt := ⟨_, rfl⟩
      have HD := Lib.hid (bitsOf_drop s j hlt)
      rw [← hc] at HD
      have e1 := hc.symm
      clear hc
      go_wp2_with fail
      refine (refsign_any _ _).mono ?_
      rintro e wx ⟨v, rfl, hv, rfl⟩
      have HV := Lib.hid hv
      have hl8 := sval_lt ⟨c.toNat, c.toNat_lt⟩
      have HL8 := Lib.hid hl8
      clear hv hl8
      cases hsv : sval c.toNat with
      | none =>
        replace HB := Lib.hid (show bitsOf s.data.toList = bN by rw [HB.out, HD.out, hsv]; simp)
        clear hsv HD HV HL8
        go_wp2_with fail
        obtain ⟨m, hm⟩ : ∃ m, m = bN.length := ⟨_, rfl⟩
        have HM := Lib.hid hm
        rw [← hm] at hnl hown
        clear hm
        obtain ⟨ab, cb, rfl, hSb⟩ := Sl.ofOwns hown
        have hown2 : (wa.alloc (.cells #[] 5)).ownsRow wa.heap.size 5 1 (.slice (some ⟨wa.heap.size, 0, none⟩) 0 0) 0 (Lib.byteCells []) := World.ownsRow_lit wa #[] 0 (Nat.le_refl _) (Nat.zero_le _) rfl
        have hW2 : Below wa.heap.size wa (wa.alloc (.cells #[] 5)) := (Below.refl _ _).alloc (Nat.le_refl _) _
        clear hown
        go_loopw [9, 10] (fun out i wq => ∃ j : Nat, 8 * j ≤ m ∧ i = .int .i64 (8 * (j : Int)) ∧ wq.ownsRow wa.heap.size 5 1 out j (Lib.byteCells (packTo bN j)) ∧ Below wa.heap.size wa wq) (fun _ i _ => m + 8 - (intOf i).toNat)
        case atStart => exact ⟨0, by omega, rfl, hown2, hW2⟩
        case round =>
          obtain ⟨wq, rfl⟩ : ∃ wq : World, wq = wr := ⟨_, rfl⟩
          obtain ⟨j, hj, rfl, hownq, hWq⟩ := hrel
          clear hown2 hW2
          by_cases hlt : 8 * j + 8 ≤ m
          · have hlt' : 8 * (j : Int) + 8 ≤ (m : Int) := by omega
            have hSq := Lib.hid (hSb.after hWq)
            go_wp2_with fail
            go_loopw [11, 12] (fun s t wz => ∃ k : Nat, k ≤ 8 ∧ t = .int .i64 k ∧ s = .int .u8 (hor bN (8 * j) k : Nat) ∧ wq = wz) (fun _ t _ => 8 - (intOf t).toNat)
            case atStart => exact ⟨0, by omega, rfl, rfl, rfl⟩
            case round =>
              obtain ⟨k, hk, rfl, rfl, rfl⟩ := hrel
              by_cases hk8 : k < 8
              · obtain ⟨b', o', rfl, hcc⟩ : ∃ b o, ab = some ⟨b, o, none⟩ ∧ ∀ i, i < m → wq.cell? ⟨b, o + i, none⟩ = some (.int .u8 (((bN.map UInt8.ofNat).getD i 0).toNat : Int)) := by
                  rcases hSq.out.2.2.2.2 with hc | hc
                  · omega
                  · exact hc
                have c0 := hcc (8 * j + k) (by omega)
                have hbit : ((bN.map UInt8.ofNat).getD (8 * j + k) 0).toNat = bN.getD (8 * j + k) 0 := map_getD bN hN.out _
                rw [hbit] at c0
                have hgk := hor_lt bN hN.out (8 * j) k
                have hgk2 : hor bN (8 * j) k < 128 := Nat.lt_of_lt_of_le hgk (Nat.pow_le_pow_right (n := 2) (by omega) (show k ≤ 7 by omega))
                have hb := getD_lt bN hN.out (8 * j + k)
                obtain ⟨x, hx⟩ : ∃ x, x = hor bN (8 * j) k := ⟨_, rfl⟩
                obtain ⟨y, hy⟩ : ∃ y, y = bN.getD (8 * j + k) 0 := ⟨_, rfl⟩
                have HG := Lib.hid (show hor bN (8 * j) (k + 1) = 2 * x + y by rw [hx, hy]; rfl)
                rw [← hx]
                rw [← hx] at hgk2
                rw [← hy] at hb c0
                clear hgk hx hy hbit hcc
                go_wp2_with fail
                go_roundw
                case rel => exact ⟨k + 1, by omega, by go_num, by rw [HG.out]; go_num, trivial⟩
                case measure => simp [intOf]; omega
              · obtain rfl : k = 8 := by omega
                have hg : hor bN (8 * j) 8 < 256 := hor_lt bN hN.out (8 * j) 8
                obtain ⟨x, hx⟩ : ∃ x, x = hor bN (8 * j) 8 := ⟨_, rfl⟩
                have HX := Lib.hid (show packTo bN (j + 1) = packTo bN j ++ [UInt8.ofNat x] by rw [hx, packTo_succ])
                rw [← hx]
                rw [← hx] at hg
                clear hx
                go_wp2_with (at_builtin; go_loud (refine wpList_append_sl rfl (.tmp 62) (.tmp 64) 23 rfl wa.heap.size 5 i0 Tryd.underlying23 hi hz0 hz1 hz2 _ j (packTo bN j) rfl (hownq.alloc _) _ 1 1 [UInt8.ofNat x] rfl (sl_cell_nat _ _ x hg (cell_new _ _ _ rfl)) (by omega) (by have := hWq.size; simp; omega) ?_); intro v1 w1 hown1 hg1)
                have hW1 := (hWq.alloc hWq.size _).grown hg1 (by have := hWq.size; simp; omega) (fun t ht => (hownq.lt t ht).1)
                rw [← HX.out] at hown1
                go_wp2_with fail
                go_roundw
                case rel => exact ⟨j + 1, by omega, by go_num, hown1, hW1⟩
                case measure => simp [intOf]; omega
          · have hlt' : (m : Int) < 8 * (j : Int) + 8 := by omega
            obtain rfl : j = m / 8 := by omega
            have HP := Lib.hid (packTo_all bN)
            rw [← HM.out] at HP
            obtain ⟨X, hX⟩ : ∃ X, X = packTo bN (m / 8) := ⟨_, rfl⟩
            rw [← hX] at hownq HP
            obtain ⟨jj, hjj⟩ : ∃ jj, jj = m / 8 := ⟨_, rfl⟩
            rw [← hjj] at hownq
            have hjl : X.length ≤ 1000000 := by
              have := hownq.1
              simp [Lib.byteCells] at this
              omega
            clear hX hjj
            obtain ⟨aq, cq, rfl, hSq⟩ := Sl.ofOwns hownq
            have hWW := hW.trans (hWq.mono hW.size)
            go_wp2_with fail
            refine (refB64_any _ _ _ _ _ hSq hjl).mono ?_
            rintro e wz ⟨rfl, hbz⟩
            have hWz := hWW.trans (hbz.mono hWW.size)
            by_cases hq : b64 X = s.toList
            · have HR2 := Lib.hid (show R = some X by rw [HR.out, unb64_both, HB.out, ← HP.out, if_pos (by rw [hq]; exact HSL.out)])
              go_wp2_with fail
              go_ret2
              exact ⟨aq, _, cq, by rw [HR2.out]; rfl, by rw [HR2.out]; exact hSq.after hbz, hWz⟩
            · have HR2 := Lib.hid (show R = none by rw [HR.out, unb64_both, HB.out, ← HP.out, if_neg (by intro hh; exact hq (hh.trans HSL.out.symm))])
              replace hq : (b64 X == s.toList) = false := by simpa using hq
              go_wp2_with fail
              go_ret2
              exact ⟨_, 0, 0, by rw [HR2.out]; rfl, by rw [HR2.out]; exact hempty _, hWz.alloc hWz.size _⟩
      | some n =>
        obtain rfl := HV.out n hsv
        have hn := HL8.out n hsv
        have HB' := Lib.hid (show bitsOf s.data.toList = (bN ++ [n / 32 % 2, n / 16 % 2, n / 8 % 2, n / 4 % 2, n / 2 % 2, n % 2]) ++ bitsOf (s.data.toList.drop (j + 1)) by rw [HB.out, HD.out, hsv]; simp)
        clear hsv HD HV HL8 HB
        go_wp2_with fail
        refine wp_loop_rounds 7 ?_
        rw [rounds_succ]
        go_wp2_with (at_builtin; go_loud (refine wpList_append_sl rfl (.tmp 33) (.tmp 39) 23 rfl w.heap.size 5 i0 Tryd.underlying23 hi hz0 hz1 hz2 _ (bN.length) (bN.map UInt8.ofNat) rfl (hown.alloc _) _ 1 1 [UInt8.ofNat (n / 32 % 2)] rfl (sl_cell_nat _ _ (n / 32 % 2) (by omega) (cell_new wa _ _ rfl)) (by omega) (by have := hW.size; simp; omega) ?_); intro v1 w1 hown1 hg1)
        have hW1 := (hW.alloc hW.size _).grown hg1 (by have := hW.size; simp; omega) (fun t ht => (hown.lt t ht).1)
        rw [rounds_succ]
        go_wp2_with (at_builtin; go_loud (refine wpList_append_sl rfl (.tmp 33) (.tmp 39) 23 rfl w.heap.size 5 i0 Tryd.underlying23 hi hz0 hz1 hz2 _ (bN.length + 1) (bN.map UInt8.ofNat ++ [UInt8.ofNat (n / 32 % 2)]) rfl (hown1.alloc _) _ 1 1 [UInt8.ofNat (n / 16 % 2)] rfl (sl_cell_nat _ _ (n / 16 % 2) (by omega) (cell_new w1 _ _ rfl)) (by omega) (by have := hW1.size; simp; omega) ?_); intro v2 w2 hown2 hg2)
        have hW2 := (hW1.alloc hW1.size _).grown hg2 (by have := hW1.size; simp; omega) (fun t ht => (hown1.lt t ht).1)
        rw [rounds_succ]
        go_wp2_with (at_builtin; go_loud (refine wpList_append_sl rfl (.tmp 33) (.tmp 39) 23 rfl w.heap.size 5 i0 Tryd.underlying23 hi hz0 hz1 hz2 _ (bN.length + 1 + 1) (bN.map UInt8.ofNat ++ [UInt8.ofNat (n / 32 % 2)] ++ [UInt8.ofNat (n / 16 % 2)]) rfl (hown2.alloc _) _ 1 1 [UInt8.ofNat (n / 8 % 2)] rfl (sl_cell_nat _ _ (n / 8 % 2) (by omega) (cell_new w2 _ _ rfl)) (by omega) (by have := hW2.size; simp; omega) ?_); intro v3 w3 hown3 hg3)
        have hW3 := (hW2.alloc hW2.size _).grown hg3 (by have := hW2.size; simp; omega) (fun t ht => (hown2.lt t ht).1)
        rw [rounds_succ]
        go_wp2_with (at_builtin; go_loud (refine wpList_append_sl rfl (.tmp 33) (.tmp 39) 23 rfl w.heap.size 5 i0 Tryd.underlying23 hi hz0 hz1 hz2 _ (bN.length + 1 + 1 + 1) (bN.map UInt8.ofNat ++ [UInt8.ofNat (n / 32 % 2)] ++ [UInt8.ofNat (n / 16 % 2)] ++ [UInt8.ofNat (n / 8 % 2)]) rfl (hown3.alloc _) _ 1 1 [UInt8.ofNat (n / 4 % 2)] rfl (sl_cell_nat _ _ (n / 4 % 2) (by omega) (cell_new w3 _ _ rfl)) (by omega) (by have := hW3.size; simp; omega) ?_); intro v4 w4 hown4 hg4)
        have hW4 := (hW3.alloc hW3.size _).grown hg4 (by have := hW3.size; simp; omega) (fun t ht => (hown3.lt t ht).1)
        rw [rounds_succ]
        go_wp2_with (at_builtin; go_loud (refine wpList_append_sl rfl (.tmp 33) (.tmp 39) 23 rfl w.heap.size 5 i0 Tryd.underlying23 hi hz0 hz1 hz2 _ (bN.length + 1 + 1 + 1 + 1) (bN.map UInt8.ofNat ++ [UInt8.ofNat (n / 32 % 2)] ++ [UInt8.ofNat (n / 16 % 2)] ++ [UInt8.ofNat (n / 8 % 2)] ++ [UInt8.ofNat (n / 4 % 2)]) rfl (hown4.alloc _) _ 1 1 [UInt8.ofNat (n / 2 % 2)] rfl (sl_cell_nat _ _ (n / 2 % 2) (by omega) (cell_new w4 _ _ rfl)) (by omega) (by have := hW4.size; simp; omega) ?_); intro v5 w5 hown5 hg5)
        have hW5 := (hW4.alloc hW4.size _).grown hg5 (by have := hW4.size; simp; omega) (fun t ht => (hown4.lt t ht).1)
        rw [rounds_succ]
        go_wp2_with (at_builtin; go_loud (refine wpList_append_sl rfl (.tmp 33) (.tmp 39) 23 rfl w.heap.size 5 i0 Tryd.underlying23 hi hz0 hz1 hz2 _ (bN.length + 1 + 1 + 1 + 1 + 1) (bN.map UInt8.ofNat ++ [UInt8.ofNat (n / 32 % 2)] ++ [UInt8.ofNat (n / 16 % 2)] ++ [UInt8.ofNat (n / 8 % 2)] ++ [UInt8.ofNat (n / 4 % 2)] ++ [UInt8.ofNat (n / 2 % 2)]) rfl (hown5.alloc _) _ 1 1 [UInt8.ofNat (n % 2)] rfl (sl_cell_nat _ _ (n % 2) (by omega) (cell_new w5 _ _ rfl)) (by omega) (by have := hW5.size; simp; omega) ?_); intro v6 w6 hown6 hg6)
        have hW6 := (hW5.alloc hW5.size _).grown hg6 (by have := hW5.size; simp; omega) (fun t ht => (hown5.lt t ht).1)
        rw [rounds_succ]
        go_wp2_with fail
        go_roundw
        case rel => exact ⟨j + 1, bN ++ [n / 32 % 2, n / 16 % 2, n / 8 % 2, n / 4 % 2, n / 2 % 2, n % 2], by omega, by go_num, by simpa using hown6, Lib.hid (by have := hN.out; intro x hx; simp at hx; rcases hx with hx | hx | hx | hx | hx | hx | hx <;> first | exact this x hx | omega), HB', by simp; omega, hW6⟩
        case measure => simp [intOf]; omega
    · obtain rfl : j = s.size := by omega
      replace HB := Lib.hid (show bitsOf s.data.toList = bN by rw [HB.out, List.drop_of_length_le (by simp)]; simp [bitsOf])
      go_wp2_with fail
      obtain ⟨m, hm⟩ : ∃ m, m = bN.length := ⟨_, rfl⟩
      have HM := Lib.hid hm
      rw [← hm] at hnl hown
      clear hm
      obtain ⟨ab, cb, rfl, hSb⟩ := Sl.ofOwns hown
      have hown2 : (wa.alloc (.cells #[] 5)).ownsRow wa.heap.size 5 1 (.slice (some ⟨wa.heap.size, 0, none⟩) 0 0) 0 (Lib.byteCells []) := World.ownsRow_lit wa #[] 0 (Nat.le_refl _) (Nat.zero_le _) rfl
      have hW2 : Below wa.heap.size wa (wa.alloc (.cells #[] 5)) := (Below.refl _ _).alloc (Nat.le_refl _) _
      clear hown
      go_loopw [9, 10] (fun out i wq => ∃ j : Nat, 8 * j ≤ m ∧ i = .int .i64 (8 * (j : Int)) ∧ wq.ownsRow wa.heap.size 5 1 out j (Lib.byteCells (packTo bN j)) ∧ Below wa.heap.size wa wq) (fun _ i _ => m + 8 - (intOf i).toNat)
      case atStart => exact ⟨0, by omega, rfl, hown2, hW2⟩
      case round =>
        obtain ⟨wq, rfl⟩ : ∃ wq : World, wq = wr := ⟨_, rfl⟩
        obtain ⟨j, hj, rfl, hownq, hWq⟩ := hrel
        clear hown2 hW2
        by_cases hlt : 8 * j + 8 ≤ m
        · have hlt' : 8 * (j : Int) + 8 ≤ (m : Int) := by omega
          have hSq := Lib.hid (hSb.after hWq)
          go_wp2_with fail
          go_loopw [11, 12] (fun s t wz => ∃ k : Nat, k ≤ 8 ∧ t = .int .i64 k ∧ s = .int .u8 (hor bN (8 * j) k : Nat) ∧ wq = wz) (fun _ t _ => 8 - (intOf t).toNat)
          case atStart => exact ⟨0, by omega, rfl, rfl, rfl⟩
          case round =>
            obtain ⟨k, hk, rfl, rfl, rfl⟩ := hrel
            by_cases hk8 : k < 8
            · obtain ⟨b', o', rfl, hcc⟩ : ∃ b o, ab = some ⟨b, o, none⟩ ∧ ∀ i, i < m → wq.cell? ⟨b, o + i, none⟩ = some (.int .u8 (((bN.map UInt8.ofNat).getD i 0).toNat : Int)) := by
                rcases hSq.out.2.2.2.2 with hc | hc
                · omega
                · exact hc
              have c0 := hcc (8 * j + k) (by omega)
              have hbit : ((bN.map UInt8.ofNat).getD (8 * j + k) 0).toNat = bN.getD (8 * j + k) 0 := map_getD bN hN.out _
              rw [hbit] at c0
              have hgk := hor_lt bN hN.out (8 * j) k
              have hgk2 : hor bN (8 * j) k < 128 := Nat.lt_of_lt_of_le hgk (Nat.pow_le_pow_right (n := 2) (by omega) (show k ≤ 7 by omega))
              have hb := getD_lt bN hN.out (8 * j + k)
              obtain ⟨x, hx⟩ : ∃ x, x = hor bN (8 * j) k := ⟨_, rfl⟩
              obtain ⟨y, hy⟩ : ∃ y, y = bN.getD (8 * j + k) 0 := ⟨_, rfl⟩
              have HG := Lib.hid (show hor bN (8 * j) (k + 1) = 2 * x + y by rw [hx, hy]; rfl)
              rw [← hx]
              rw [← hx] at hgk2
              rw [← hy] at hb c0
              clear hgk hx hy hbit hcc
              go_wp2_with fail
              go_roundw
              case rel => exact ⟨k + 1, by omega, by go_num, by rw [HG.out]; go_num, trivial⟩
              case measure => simp [intOf]; omega
            · obtain rfl : k = 8 := by omega
              have hg : hor bN (8 * j) 8 < 256 := hor_lt bN hN.out (8 * j) 8
              obtain ⟨x, hx⟩ : ∃ x, x = hor bN (8 * j) 8 := ⟨_, rfl⟩
              have HX := Lib.hid (show packTo bN (j + 1) = packTo bN j ++ [UInt8.ofNat x] by rw [hx, packTo_succ])
              rw [← hx]
              rw [← hx] at hg
              clear hx
              go_wp2_with (at_builtin; go_loud (refine wpList_append_sl rfl (.tmp 62) (.tmp 64) 23 rfl wa.heap.size 5 i0 Tryd.underlying23 hi hz0 hz1 hz2 _ j (packTo bN j) rfl (hownq.alloc _) _ 1 1 [UInt8.ofNat x] rfl (sl_cell_nat _ _ x hg (cell_new _ _ _ rfl)) (by omega) (by have := hWq.size; simp; omega) ?_); intro v1 w1 hown1 hg1)
              have hW1 := (hWq.alloc hWq.size _).grown hg1 (by have := hWq.size; simp; omega) (fun t ht => (hownq.lt t ht).1)
              rw [← HX.out] at hown1
              go_wp2_with fail
              go_roundw
              case rel => exact ⟨j + 1, by omega, by go_num, hown1, hW1⟩
              case measure => simp [intOf]; omega
        · have hlt' : (m : Int) < 8 * (j : Int) + 8 := by omega
          obtain rfl : j = m / 8 := by omega
          have HP := Lib.hid (packTo_all bN)
          rw [← HM.out] at HP
          obtain ⟨X, hX⟩ : ∃ X, X = packTo bN (m / 8) := ⟨_, rfl⟩
          rw [← hX] at hownq HP
          obtain ⟨jj, hjj⟩ : ∃ jj, jj = m / 8 := ⟨_, rfl⟩
          rw [← hjj] at hownq
          have hjl : X.length ≤ 1000000 := by
            have := hownq.1
            simp [Lib.byteCells] at this
            omega
          clear hX hjj
          obtain ⟨aq, cq, rfl, hSq⟩ := Sl.ofOwns hownq
          have hWW := hW.trans (hWq.mono hW.size)
          go_wp2_with fail
          refine (refB64_any _ _ _ _ _ hSq hjl).mono ?_
          rintro e wz ⟨rfl, hbz⟩
          have hWz := hWW.trans (hbz.mono hWW.size)
          by_cases hq : b64 X = s.toList
          · have HR2 := Lib.hid (show R = some X by rw [HR.out, unb64_both, HB.out, ← HP.out, if_pos (by rw [hq]; exact HSL.out)])
            go_wp2_with fail
            go_ret2
            exact ⟨aq, _, cq, by rw [HR2.out]; rfl, by rw [HR2.out]; exact hSq.after hbz, hWz⟩
          · have HR2 := Lib.hid (show R = none by rw [HR.out, unb64_both, HB.out, ← HP.out, if_neg (by intro hh; exact hq (hh.trans HSL.out.symm))])
            replace hq : (b64 X == s.toList) = false := by simpa using hq
            go_wp2_with fail
            go_ret2
            exact ⟨_, 0, 0, by rw [HR2.out]; rfl, by rw [HR2.out]; exact hempty _, hWz.alloc hWz.size _⟩
end Go.Proofs.YtkbblhioncecmaaDoor

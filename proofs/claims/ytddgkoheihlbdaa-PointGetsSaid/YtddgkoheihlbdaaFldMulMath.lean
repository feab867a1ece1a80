/- field: products: plain numbers. -/
import Derived.Test.YtddgkoheihlbdaaFldMath3
import Derived.Test.YtddgkoheihlbdaaFldRefMath
namespace Go.Proofs.Ytddgkoheihlbdaa

def ix (i k : Nat) : Nat := if i + k < 5 then i + k else i + k - 5
def fac (y : L5) (i k : Nat) : Nat := if i + k < 5 then y.at k else 19 * y.at k
/-- row i of the products, k of them put to v -/
def rowV (x y : L5) (i : Nat) (v : Nat → Nat) : Nat → Nat → Nat
  | 0 => v
  | k + 1 => upd (rowV x y i v k) (ix i k) (rowV x y i v k (ix i k) + x.at i * fac y i k)
def allV (x y : L5) : Nat → Nat → Nat
  | 0 => fun _ => 0
  | i + 1 => rowV x y i (allV x y i) 5

theorem upd_le {f : Nat → Nat} {i v M : Nat} (h : ∀ j, f j ≤ M) (hv : v ≤ M) : ∀ j, upd f i v j ≤ M := fun j => by
  unfold upd; split
  · exact hv
  · exact h j

theorem prod_le {x y : L5} (hx : ∀ j, j < 5 → x.at j < 4503599627370496) (hy : ∀ j, j < 5 → y.at j < 4503599627370496) (i k : Nat) (hi : i < 5) (hk : k < 5) :
    x.at i * fac y i k ≤ 4503599627370496 * 85568392920039424 ∧ fac y i k < 85568392920039424 := by
  have h1 := hx i hi
  have h2 := hy k hk
  have h3 : fac y i k < 85568392920039424 := by unfold fac; split <;> omega
  exact ⟨Nat.mul_le_mul (by omega) (by omega), h3⟩

theorem rowV_le {x y : L5} (hx : ∀ j, j < 5 → x.at j < 4503599627370496) (hy : ∀ j, j < 5 → y.at j < 4503599627370496) {i : Nat} (hi : i < 5) {v : Nat → Nat} {M : Nat} (hv : ∀ j, v j ≤ M) :
    ∀ k, k ≤ 5 → ∀ j, rowV x y i v k j ≤ M + 385365782469381738054997774434304 * k
  | 0, _ => by simpa [rowV] using hv
  | k + 1, hk => by
    have h1 := rowV_le hx hy hi hv k (by omega)
    have h2 := (prod_le hx hy i k hi (by omega)).1
    refine upd_le (fun j => Nat.le_trans (h1 j) (by omega)) ?_
    have := h1 (ix i k)
    omega
theorem allV_le {x y : L5} (hx : ∀ j, j < 5 → x.at j < 4503599627370496) (hy : ∀ j, j < 5 → y.at j < 4503599627370496) : ∀ i, i ≤ 5 → ∀ j, allV x y i j ≤ 1926828912346908690274988872171520 * i
  | 0, _ => fun j => by simp [allV]
  | i + 1, hi => fun j => by
    have := rowV_le hx hy (i := i) (by omega) (allV_le hx hy i (by omega)) 5 (Nat.le_refl _) j
    rw [allV]; omega

/-- the carry into limb i -/
def cc (v : Nat → Nat) : Nat → Nat | 0 => 0 | i + 1 => (v i + cc v i) / 2251799813685248
def oo (v : Nat → Nat) (i : Nat) : Nat := (v i + cc v i) % 2251799813685248
def lastT (v : Nat → Nat) : Nat := 19 * cc v 5 + oo v 0
def mulO (v : Nat → Nat) : L5 := ⟨lastT v % 2251799813685248, oo v 1 + lastT v / 2251799813685248, oo v 2, oo v 3, oo v 4⟩
def L5.mul (x y : L5) : L5 := (mulO (allV x y 5)).cry

theorem cc_le {v : Nat → Nat} (h : ∀ j, v j ≤ 9634144561734543451374944360857600) : ∀ i, i ≤ 5 → cc v i ≤ 4278419646001975000
  | 0, _ => by simp [cc]
  | i + 1, hi => by
    have h1 := cc_le h i (by omega)
    have h2 := h i
    rw [cc]; omega
theorem oo_lt (v : Nat → Nat) (i : Nat) : oo v i < 2251799813685248 := Nat.mod_lt _ (by omega)
theorem mulO_lt {v : Nat → Nat} (h : ∀ j, v j ≤ 9634144561734543451374944360857600) : (mulO v).lt 9223372036854775808 := by
  have h5 := cc_le h 5 (Nat.le_refl _)
  have h0 := oo_lt v 0
  have h1 := oo_lt v 1
  have h2 := oo_lt v 2
  have h3 := oo_lt v 3
  have h4 := oo_lt v 4
  refine ⟨?_, ?_, ?_, ?_, ?_⟩ <;> (simp only [mulO, lastT]; omega)
theorem mulO_val (v : Nat → Nat) : (mulO v).val + P25 * cc v 5 = v 0 + 2251799813685248 * v 1 + 5070602400912917605986812821504 * v 2 + 11417981541647679048466287755595961091061972992 * v 3 + 25711008708143844408671393477458601640355247900524685364822016 * v 4 := by
  have c0 : cc v 0 = 0 := rfl
  have c1 : cc v 1 = (v 0 + cc v 0) / 2251799813685248 := rfl
  have c2 : cc v 2 = (v 1 + cc v 1) / 2251799813685248 := rfl
  have c3 : cc v 3 = (v 2 + cc v 2) / 2251799813685248 := rfl
  have c4 : cc v 4 = (v 3 + cc v 3) / 2251799813685248 := rfl
  have c5 : cc v 5 = (v 4 + cc v 4) / 2251799813685248 := rfl
  have o0 : oo v 0 = (v 0 + cc v 0) % 2251799813685248 := rfl
  have o1 : oo v 1 = (v 1 + cc v 1) % 2251799813685248 := rfl
  have o2 : oo v 2 = (v 2 + cc v 2) % 2251799813685248 := rfl
  have o3 : oo v 3 = (v 3 + cc v 3) % 2251799813685248 := rfl
  have o4 : oo v 4 = (v 4 + cc v 4) % 2251799813685248 := rfl
  simp only [mulO, lastT, L5.val, P25]
  generalize cc v 0 = a0 at *
  generalize cc v 1 = a1 at *
  generalize cc v 2 = a2 at *
  generalize cc v 3 = a3 at *
  generalize cc v 4 = a4 at *
  generalize cc v 5 = a5 at *
  generalize oo v 0 = b0 at *
  generalize oo v 1 = b1 at *
  generalize oo v 2 = b2 at *
  generalize oo v 3 = b3 at *
  generalize oo v 4 = b4 at *
  generalize v 0 = v0 at *
  generalize v 1 = v1 at *
  generalize v 2 = v2 at *
  generalize v 3 = v3 at *
  generalize v 4 = v4 at *
  omega

theorem all0 (x y : L5) : allV x y 5 0 = x.a * y.a + 19 * (x.b * y.e) + 19 * (x.c * y.d) + 19 * (x.d * y.c) + 19 * (x.e * y.b) := by
  simp [allV, rowV, upd, ix, fac, L5.at, Nat.mul_left_comm]
theorem all1 (x y : L5) : allV x y 5 1 = x.a * y.b + x.b * y.a + 19 * (x.c * y.e) + 19 * (x.d * y.d) + 19 * (x.e * y.c) := by
  simp [allV, rowV, upd, ix, fac, L5.at, Nat.mul_left_comm]
theorem all2 (x y : L5) : allV x y 5 2 = x.a * y.c + x.b * y.b + x.c * y.a + 19 * (x.d * y.e) + 19 * (x.e * y.d) := by
  simp [allV, rowV, upd, ix, fac, L5.at, Nat.mul_left_comm]
theorem all3 (x y : L5) : allV x y 5 3 = x.a * y.d + x.b * y.c + x.c * y.b + x.d * y.a + 19 * (x.e * y.e) := by
  simp [allV, rowV, upd, ix, fac, L5.at, Nat.mul_left_comm]
theorem all4 (x y : L5) : allV x y 5 4 = x.a * y.e + x.b * y.d + x.c * y.c + x.d * y.b + x.e * y.a := by
  simp [allV, rowV, upd, ix, fac, L5.at]

theorem mul_val (x y : L5) : ∃ K, (mulO (allV x y 5)).val + P25 * cc (allV x y 5) 5 + P25 * K = x.val * y.val := by
  have h := mulO_val (allV x y 5)
  rw [h, all0, all1, all2, all3, all4]
  obtain ⟨a, b, c, d, e⟩ := x
  obtain ⟨a', b', c', d', e'⟩ := y
  refine ⟨b * e' + c * d' + d * c' + e * b' + 2251799813685248 * (c * e' + d * d' + e * c') + 5070602400912917605986812821504 * (d * e' + e * d') + 11417981541647679048466287755595961091061972992 * (e * e'), ?_⟩
  simp only [L5.val, P25]
  grind
end Go.Proofs.Ytddgkoheihlbdaa

/- The group of the curve's points: sums, multiples, and what the program's and the document's formulas give (plain). -/
import Derived.Test.YtpkoniebbkkmjaaPnG8
namespace Go.Proofs.Ytpkoniebbkkmjaa
set_option linter.unusedVariables false
set_option linter.unusedSimpArgs false

/-- congruent to 0 -/
def Zp (a : Int) : Prop := (P25 : Int) ∣ a
theorem Zp.add {a b : Int} (h : Zp a) (k : Zp b) : Zp (a + b) := Int.dvd_add h k
theorem Zp.sub {a b : Int} (h : Zp a) (k : Zp b) : Zp (a - b) := Int.dvd_sub h k
theorem Zp.mul {a : Int} (h : Zp a) (k : Int) : Zp (k * a) := Int.dvd_mul_of_dvd_right h
theorem Zp.to {a b : Int} (h : Zp a) (e : a = b) : Zp b := e ▸ h
theorem Zp.zero : Zp 0 := Int.dvd_zero _
theorem p25_pos : 0 < P25 := by unfold P25; omega
theorem Zp.nat {n : Nat} : Zp (n : Int) ↔ P25 ∣ n := Int.natCast_dvd_natCast
theorem Zp.small {n : Nat} (h : n < P25) (k : Zp (n : Int)) : n = 0 := Nat.eq_zero_of_dvd_of_lt (Zp.nat.1 k) h
theorem Zp.inj {u v : Nat} (hu : u < P25) (hv : v < P25) (h : Zp ((u : Int) - v)) : u = v := by
  rcases Nat.le_total u v with hle | hle
  · have := Zp.small (n := v - u) (by omega) (h.mul (-1) |>.to (by omega))
    omega
  · have := Zp.small (n := u - v) (by omega) (h.to (by omega))
    omega
theorem Zp.abs {a : Int} : Zp a ↔ P25 ∣ a.natAbs := Int.ofNat_dvd_left
theorem Zp.prime {a b : Int} (h : Zp (a * b)) : Zp a ∨ Zp b := by
  rw [Zp.abs, Int.natAbs_mul] at h
  rw [Zp.abs, Zp.abs]
  exact pr_dvd pr_p h
theorem Zp.cancel {a b : Int} (h : Zp (a * b)) (k : ¬ Zp a) : Zp b := h.prime.resolve_left k
theorem Zp.one : ¬ Zp 1 := fun h => by
  have := Zp.small (n := 1) (by unfold P25; omega) h
  omega
theorem zmod (n : Nat) : Zp (((n % P25 : Nat) : Int) - n) := by
  have h := Nat.div_add_mod n P25
  refine Int.dvd_of_emod_eq_zero ?_
  have : ((n % P25 : Nat) : Int) - n = -((P25 : Int) * ((n / P25 : Nat) : Int)) := by
    have : (n : Int) = (P25 : Int) * ((n / P25 : Nat) : Int) + ((n % P25 : Nat) : Int) := by exact_mod_cast h.symm
    omega
  rw [this]
  simp
theorem zfm (u v : Nat) : Zp ((fm u v : Int) - u * v) := (zmod (u * v)).to (by rw [Int.natCast_mul]; rfl)
theorem zfa (u v : Nat) : Zp ((fa u v : Int) - (u + v)) := (zmod (u + v)).to (by rw [Int.natCast_add]; rfl)
theorem zfs (u v : Nat) (hv : v ≤ P25) : Zp ((fs u v : Int) - (u - v)) := by
  have h := zmod (u + (P25 - v))
  have e : ((u + (P25 - v) : Nat) : Int) = (u : Int) - v + P25 := by omega
  rw [e] at h
  refine (h.add (Int.dvd_refl (P25 : Int))).to ?_
  unfold fs
  omega
theorem zfi {u : Nat} (h : ¬ Zp (u : Int)) (hu : u < P25) : Zp ((u : Int) * fi u - 1) := by
  have h1 := inv_law u hu
  have h0 : u ≠ 0 := fun e => h (e ▸ Zp.zero)
  rw [show (u == 0) = false by simpa using h0] at h1
  have h2 : u * fi u % P25 = 1 := by simpa [fi] using h1
  have := zmod (u * fi u)
  rw [h2] at this
  refine (this.mul (-1)).to ?_
  rw [Int.natCast_mul]
  omega
/-- a number's inverse -/
theorem zinv {a : Int} (h : ¬ Zp a) : ∃ s : Int, Zp (a * s - 1) := by
  have hp : (0 : Int) < P25 := by have := p25_pos; omega
  have h1 := Int.emod_add_mul_ediv a P25
  have hn := Int.emod_nonneg a (show (P25 : Int) ≠ 0 by omega)
  have hl := Int.emod_lt_of_pos a hp
  obtain ⟨u, hu⟩ : ∃ u : Nat, (u : Int) = a % P25 := ⟨(a % P25).toNat, by omega⟩
  have hd : Zp (a - u) := by
    refine ⟨a / P25, ?_⟩
    omega
  have hz : ¬ Zp (u : Int) := fun k => h ((hd.add k).to (by omega))
  refine ⟨(fi u : Int), ((zfi hz (by omega)).add (hd.mul (fi u))).to (by grind)⟩
theorem Zp.ne_mul {a b : Int} (h : ¬ Zp a) (k : ¬ Zp b) : ¬ Zp (a * b) := fun e => e.prime.elim h k

/-! the curve -/
attribute [local irreducible] pw
def dZ : Int := (dN : Int)
/-- a root of -1 -/
def iN : Nat := 19681161376707505956807079304988542015446066515923890162744021073123829784752
def iZ : Int := (iN : Int)
theorem iN_sq : iN * iN % P25 = P25 - 1 := by decide +kernel
attribute [local irreducible] iN
theorem iZ_sq : Zp (iZ * iZ + 1) := by
  have h := iN_sq
  have := zmod (iN * iN)
  rw [h] at this
  have hp := p25_pos
  have e : ((P25 - 1 : Nat) : Int) = (P25 : Int) - 1 := by omega
  rw [e, Int.natCast_mul] at this
  refine ((this.mul (-1)).add (Int.dvd_refl (P25 : Int))).to ?_
  unfold iZ
  omega
def hP : Nat := 28948022309329048855892746252171976963317496166410141009864396001978282409974
theorem dN_val : dN = 37095705934669439343138083508754565189542113879843219016388785533085940283555 := by
  have h : fi 121666 = 37095705934669439343138083508754565189542113879843219016388785533085940283556 := pw_mp _ _ _ (by decide +kernel) (by decide +kernel)
  unfold dN
  rw [h]
  decide +kernel
theorem dN_pow : pw dN hP = P25 - 1 := by
  rw [dN_val]
  exact pw_mp _ _ _ (by decide +kernel) (by decide +kernel)
attribute [local irreducible] fi dN
theorem not_square (s : Int) : ¬ Zp (s * s - dZ) := fun h => by
  have h1 : s.natAbs * s.natAbs % P25 = dN % P25 := by
    have e : ((s.natAbs * s.natAbs : Nat) : Int) = s * s := Int.natAbs_mul_self
    have h2 := zmod (s.natAbs * s.natAbs)
    have h3 := zmod dN
    rw [e] at h2
    refine Zp.inj (Nat.mod_lt _ p25_pos) (Nat.mod_lt _ p25_pos) (((h2.add h).sub h3).to ?_)
    unfold dZ
    omega
  generalize s.natAbs = n at h1
  have hd : dN % P25 ≠ 0 := by rw [dN_val]; decide +kernel
  have h2 : dN ^ hP % P25 = P25 - 1 := by rw [← pw_def]; exact dN_pow
  rw [Nat.pow_mod, ← h1, ← Nat.pow_mod, ← Nat.pow_two, ← Nat.pow_mul, show 2 * hP = P25 - 1 from half_p] at h2
  have hn : n % P25 ≠ 0 := fun e => hd (by rw [← h1, Nat.mul_mod, e]; rfl)
  have hpr : Pr P25 := pr_p
  have hf' := fermat hpr (hpr.2 (n % P25) (by omega) (Nat.mod_lt _ p25_pos))
  rw [← Nat.pow_mod] at hf'
  rw [hf'] at h2
  unfold P25 at h2
  omega
theorem two_ne : ¬ Zp 2 := fun h => by
  have := Zp.small (n := 2) (by unfold P25; omega) h
  omega
/-- a point's place is on the curve -/
def On (x y : Int) : Prop := Zp (y ^ 2 - x ^ 2 - 1 - dZ * x ^ 2 * y ^ 2)
theorem compl_half {x1 y1 x2 y2 ep i : Int} (h1 : On x1 y1) (h2 : On x2 y2) (hq : Zp (dZ * x1 * x2 * y1 * y2 - ep)) (he : ep ^ 2 - 1 = 0) (hi : Zp (i * i + 1)) : Zp (y2 + i * x2) := by
  by_cases hz : Zp (y2 + i * x2)
  · exact hz
  exfalso
  have hep : ¬ Zp ep := fun h => Zp.one ((h.mul ep).to (by grind))
  have hx : ¬ Zp x1 := fun h => hep (((h.mul (dZ * x2 * y1 * y2)).sub hq).to (by grind))
  have hy : ¬ Zp y1 := fun h => hep (((h.mul (dZ * x1 * x2 * y2)).sub hq).to (by grind))
  have h3 : Zp ((y1 + ep * i * x1) ^ 2 - dZ * (x1 * y1 * (y2 + i * x2)) ^ 2) :=
    ((((((h1.sub (h2.mul (dZ * x1 ^ 2 * y1 ^ 2))).sub (hq.mul (dZ * x1 * x2 * y1 * y2 + ep))).sub (hi.mul (dZ * x1 ^ 2 * x2 ^ 2 * y1 ^ 2))).sub (hq.mul (2 * i * x1 * y1))).add (hi.mul (x1 ^ 2)))).to (by unfold On at *; grind)
  obtain ⟨s, hs⟩ := zinv ((Zp.ne_mul (Zp.ne_mul hx hy) hz))
  refine not_square ((y1 + ep * i * x1) * s) (((h3.mul (s ^ 2)).add (hs.mul (dZ * (x1 * y1 * (y2 + i * x2) * s + 1)))).to (by grind))
theorem compl {x1 y1 x2 y2 ep : Int} (h1 : On x1 y1) (h2 : On x2 y2) (he : ep ^ 2 - 1 = 0) : ¬ Zp (dZ * x1 * x2 * y1 * y2 - ep) := fun hq => by
  have a := compl_half h1 h2 hq he iZ_sq
  have b := compl_half (i := -iZ) h1 h2 hq he (iZ_sq.to (by grind))
  have hy : Zp y2 := Zp.cancel (a := 2) ((a.add b).to (by grind)) two_ne
  have hx : Zp x2 := Zp.cancel (a := 2) (((a.sub b).mul (-iZ)).sub (iZ_sq.mul (-2 * x2)) |>.to (by grind)) two_ne
  exact Zp.one ((((hy.mul (y2 - dZ * x2 ^ 2 * y2)).sub (hx.mul x2)).sub h2).to (by grind))
theorem compl_p {x1 y1 x2 y2 : Int} (h1 : On x1 y1) (h2 : On x2 y2) : ¬ Zp (1 + dZ * x1 * x2 * y1 * y2) := fun h => compl (ep := -1) h1 h2 (by decide) (h.to (by grind))
theorem compl_m {x1 y1 x2 y2 : Int} (h1 : On x1 y1) (h2 : On x2 y2) : ¬ Zp (1 - dZ * x1 * x2 * y1 * y2) := fun h => compl (ep := 1) h1 h2 (by decide) ((h.mul (-1)).to (by grind))

/-! points -/
structure PP where
  x : Nat
  y : Nat
def PP.ok (a : PP) : Prop := a.x < P25 ∧ a.y < P25 ∧ On a.x a.y
def qN (a b : PP) : Nat := fm dN (fm (fm a.x b.x) (fm a.y b.y))
def padd (a b : PP) : PP := ⟨fm (fa (fm a.x b.y) (fm a.y b.x)) (fi (fa 1 (qN a b))), fm (fa (fm a.y b.y) (fm a.x b.x)) (fi (fs 1 (qN a b)))⟩
def pzero : PP := ⟨0, 1⟩
def pneg (a : PP) : PP := ⟨fs 0 a.x, a.y⟩
theorem pzero_ok : pzero.ok := ⟨p25_pos, by unfold pzero P25; decide, by unfold On pzero; exact Zp.zero.to (by simp)⟩
theorem zqN (a b : PP) : Zp ((qN a b : Int) - dZ * a.x * b.x * a.y * b.y) := by
  unfold qN dZ
  have h1 := zfm a.x b.x
  have h2 := zfm a.y b.y
  have h3 := zfm (fm a.x b.x) (fm a.y b.y)
  have h4 := zfm dN (fm (fm a.x b.x) (fm a.y b.y))
  generalize (fm dN (fm (fm a.x b.x) (fm a.y b.y)) : Int) = q at *
  generalize (fm (fm a.x b.x) (fm a.y b.y) : Int) = r at *
  generalize (fm a.x b.x : Int) = s at *
  generalize (fm a.y b.y : Int) = t at *
  exact ((h4.add (h3.mul dN)).add ((h1.mul (dN * t)).add (h2.mul (dN * a.x * b.x)))).to (by grind)
theorem fm_lt' (u v : Nat) : fm u v < P25 := Nat.mod_lt _ p25_pos
theorem fa_lt' (u v : Nat) : fa u v < P25 := Nat.mod_lt _ p25_pos
theorem fs_lt' (u v : Nat) : fs u v < P25 := Nat.mod_lt _ p25_pos
/-- a quotient -/
theorem zquo {n v : Nat} {N V : Int} (hn : Zp ((n : Int) - N)) (hv : Zp ((v : Int) - V)) (hl : v < P25) (hV : ¬ Zp V) : Zp ((fm n (fi v) : Int) * V - N) := by
  have hz : ¬ Zp (v : Int) := fun h => hV ((h.sub hv).to (by grind))
  have h1 := zfi hz hl
  have h2 := zfm n (fi v)
  generalize (fm n (fi v) : Int) = r at *
  generalize (fi v : Int) = s at *
  refine ((h2.mul V).add (((h1.mul (n : Int)).sub (hv.mul ((n : Int) * s))).add hn)).to ?_
  grind
theorem padd_x {a b : PP} (ha : a.ok) (hb : b.ok) : Zp (((padd a b).x : Int) * (1 + dZ * a.x * b.x * a.y * b.y) - (a.x * b.y + a.y * b.x)) := by
  refine zquo ?_ ?_ (fa_lt' _ _) (compl_p ha.2.2 hb.2.2)
  · exact ((zfa (fm a.x b.y) (fm a.y b.x)).add ((zfm a.x b.y).add (zfm a.y b.x))).to (by grind)
  · exact ((zfa 1 (qN a b)).add (zqN a b)).to (by grind)
theorem padd_y {a b : PP} (ha : a.ok) (hb : b.ok) : Zp (((padd a b).y : Int) * (1 - dZ * a.x * b.x * a.y * b.y) - (a.y * b.y + a.x * b.x)) := by
  refine zquo ?_ ?_ (fs_lt' _ _) (compl_m ha.2.2 hb.2.2)
  · exact ((zfa (fm a.y b.y) (fm a.x b.x)).add ((zfm a.y b.y).add (zfm a.x b.x))).to (by grind)
  · exact ((zfs 1 (qN a b) (Nat.le_of_lt (fm_lt' _ _))).sub (zqN a b)).to (by grind)
/-- which point a sum is -/
theorem padd_eq {a b c : PP} (ha : a.ok) (hb : b.ok) (hx : c.x < P25) (hy : c.y < P25) (h1 : Zp ((c.x : Int) * (1 + dZ * a.x * b.x * a.y * b.y) - (a.x * b.y + a.y * b.x)))
    (h2 : Zp ((c.y : Int) * (1 - dZ * a.x * b.x * a.y * b.y) - (a.y * b.y + a.x * b.x))) : c = padd a b := by
  obtain ⟨x, y⟩ := c
  have e1 : x = (padd a b).x := Zp.inj hx (fm_lt' _ _) (Zp.cancel ((h1.sub (padd_x ha hb)).to (by simp only; grind)) (compl_p ha.2.2 hb.2.2))
  have e2 : y = (padd a b).y := Zp.inj hy (fm_lt' _ _) (Zp.cancel ((h2.sub (padd_y ha hb)).to (by simp only; grind)) (compl_m ha.2.2 hb.2.2))
  rw [e1, e2]
set_option maxHeartbeats 4000000 in
set_option maxRecDepth 100000 in
theorem closed (x1 y1 x2 y2 d : Int) : (y1*y2+x1*x2)^2*(1+d*x1*x2*y1*y2)^2 - (x1*y2+y1*x2)^2*(1-d*x1*x2*y1*y2)^2 - (1+d*x1*x2*y1*y2)^2*(1-d*x1*x2*y1*y2)^2 - d*(x1*y2+y1*x2)^2*(y1*y2+x1*x2)^2
    = (d^3*x1^2*x2^4*y1^2*y2^4 - d^2*x1^2*x2^4*y2^4 + d^2*x2^4*y1^2*y2^4 - d^2*x2^4*y2^4 - d*x1^2*x2^4*y2^2 + d*x1^2*x2^2*y2^4 + d*x2^4*y1^2*y2^2 - 2*d*x2^4*y2^4 - d*x2^2*y1^2*y2^4 - 2*d*x2^2*y2^2 - 2*x2^4*y2^2 + x2^4 + 2*x2^2*y2^4 - 4*x2^2*y2^2 + y2^4)*(y1^2-x1^2-1-d*x1^2*y1^2) + (d*x1^4*x2^2*y2^2 + 2*d*x1^2*x2^2*y2^2 + d*x2^2*y1^4*y2^2 - 2*d*x2^2*y1^2*y2^2 + d*x2^2*y2^2 + 2*x1^2*x2^2*y2^2 - x1^2*x2^2 + x1^2*y2^2 - 2*x2^2*y1^2*y2^2 + x2^2*y1^2 + 2*x2^2*y2^2 - x2^2 - y1^2*y2^2 + y2^2 + 1)*(y2^2-x2^2-1-d*x2^2*y2^2) := by grind
set_option maxHeartbeats 4000000 in
theorem padd_ok {a b : PP} (ha : a.ok) (hb : b.ok) : (padd a b).ok := by
  refine ⟨fm_lt' _ _, fm_lt' _ _, ?_⟩
  have hx := padd_x ha hb
  have hy := padd_y ha hb
  have hu := compl_p ha.2.2 hb.2.2
  have hv := compl_m ha.2.2 hb.2.2
  have h1 := ha.2.2
  have h2 := hb.2.2
  generalize ((padd a b).x : Int) = X at *
  generalize ((padd a b).y : Int) = Y at *
  have hc := closed a.x a.y b.x b.y dZ
  generalize (a.x : Int) = x1 at *
  generalize (a.y : Int) = y1 at *
  generalize (b.x : Int) = x2 at *
  generalize (b.y : Int) = y2 at *
  unfold On at *
  have hc2 := (h1.mul (dZ^3*x1^2*x2^4*y1^2*y2^4 - dZ^2*x1^2*x2^4*y2^4 + dZ^2*x2^4*y1^2*y2^4 - dZ^2*x2^4*y2^4 - dZ*x1^2*x2^4*y2^2 + dZ*x1^2*x2^2*y2^4 + dZ*x2^4*y1^2*y2^2 - 2*dZ*x2^4*y2^4 - dZ*x2^2*y1^2*y2^4 - 2*dZ*x2^2*y2^2 - 2*x2^4*y2^2 + x2^4 + 2*x2^2*y2^4 - 4*x2^2*y2^2 + y2^4)).add (h2.mul (dZ*x1^4*x2^2*y2^2 + 2*dZ*x1^2*x2^2*y2^2 + dZ*x2^2*y1^4*y2^2 - 2*dZ*x2^2*y1^2*y2^2 + dZ*x2^2*y2^2 + 2*x1^2*x2^2*y2^2 - x1^2*x2^2 + x1^2*y2^2 - 2*x2^2*y1^2*y2^2 + x2^2*y1^2 + 2*x2^2*y2^2 - x2^2 - y1^2*y2^2 + y2^2 + 1))
  rw [← hc] at hc2
  clear hc h1 h2
  generalize dZ * x1 * x2 * y1 * y2 = q at *
  generalize x1 * y2 + y1 * x2 = s at *
  generalize y1 * y2 + x1 * x2 = t at *
  refine Zp.cancel (a := (1 + q) ^ 2 * (1 - q) ^ 2) ?_ (by
    have := Zp.ne_mul (Zp.ne_mul hu hu) (Zp.ne_mul hv hv)
    exact fun h => this (h.to (by grind)))
  -- Y(1-q) = t, X(1+q) = s
  have k1 : Zp ((Y * (1 - q)) ^ 2 - t ^ 2) := (hy.mul (Y * (1 - q) + t)).to (by grind)
  have k2 : Zp ((X * (1 + q)) ^ 2 - s ^ 2) := (hx.mul (X * (1 + q) + s)).to (by grind)
  generalize hYY : Y * (1 - q) = YY at *
  generalize hXX : X * (1 + q) = XX at *
  have k3 : Zp (YY ^ 2 * (1 + q) ^ 2 - XX ^ 2 * (1 - q) ^ 2 - (1 + q) ^ 2 * (1 - q) ^ 2 - dZ * XX ^ 2 * YY ^ 2) :=
    (((hc2.add (k1.mul ((1 + q) ^ 2))).sub (k2.mul ((1 - q) ^ 2))).sub ((k1.mul (dZ * XX ^ 2)).add (k2.mul (dZ * t ^ 2)))).to (by grind)
  exact k3.to (by rw [← hYY, ← hXX]; grind)
theorem padd_comm {a b : PP} (ha : a.ok) (hb : b.ok) : padd a b = padd b a :=
  padd_eq hb ha (fm_lt' _ _) (fm_lt' _ _) ((padd_x ha hb).to (by grind)) ((padd_y ha hb).to (by grind))
theorem padd_zero {a : PP} (ha : a.ok) : padd a pzero = a :=
  (padd_eq ha pzero_ok ha.1 ha.2.1 (Zp.zero.to (by unfold pzero; simp)) (Zp.zero.to (by unfold pzero; simp))).symm
theorem pneg_ok {a : PP} (ha : a.ok) : (pneg a).ok := by
  refine ⟨fs_lt' _ _, ha.2.1, ?_⟩
  have h := zfs 0 a.x (Nat.le_of_lt ha.1)
  have h1 := ha.2.2
  unfold On pneg at *
  simp only
  generalize (fs 0 a.x : Int) = n at *
  exact (h1.sub (h.mul ((n - a.x) * (1 + dZ * (a.y : Int) ^ 2)))).to (by grind)
theorem padd_neg {a : PP} (ha : a.ok) : padd a (pneg a) = pzero := by
  have h := zfs 0 a.x (Nat.le_of_lt ha.1)
  have h1 := ha.2.2
  refine (padd_eq ha (pneg_ok ha) p25_pos (by unfold pzero P25; decide) ?_ ?_).symm
  · unfold pneg pzero
    simp only
    generalize (fs 0 a.x : Int) = n at *
    exact (h.mul (-(a.y : Int))).to (by grind)
  · unfold pneg pzero
    simp only
    unfold On at h1
    generalize (fs 0 a.x : Int) = n at *
    exact ((h.mul (-(dZ * a.x * a.y * a.y) - a.x)).sub h1).to (by grind)
set_option maxHeartbeats 4000000 in
set_option maxRecDepth 100000 in
theorem assoc_x (x1 y1 x2 y2 x3 y3 d : Int) : ((x1*y2+y1*x2)*(1-(d*x1*x2*y1*y2))*y3+(y1*y2+x1*x2)*(1+(d*x1*x2*y1*y2))*x3)*((1+(d*x2*x3*y2*y3))*(1-(d*x2*x3*y2*y3))+d*(x1*y1*((x2*y3+y2*x3)*(y2*y3+x2*x3)))) - (x1*((y2*y3+x2*x3)*(1+(d*x2*x3*y2*y3)))+y1*((x2*y3+y2*x3)*(1-(d*x2*x3*y2*y3))))*((1+(d*x1*x2*y1*y2))*(1-(d*x1*x2*y1*y2))+d*((x1*y2+y1*x2)*(y1*y2+x1*x2)*(x3*y3))) = (-d*x2*y2*(d*x1*x2^3*x3^2*y2^2*y3 + d*x1*x2^2*x3*y2^3*y3^2 - d*x2^3*x3*y1*y2^2*y3^2 - d*x2^2*x3^2*y1*y2^3*y3 + x1*x2^3*x3^2*y3 + x1*x2^2*x3^3*y2 + x1*x2^2*x3*y2 - x1*x2*y2^2*y3^3 + x1*x2*y2^2*y3 - x1*x3*y2^3*y3^2 - x2^3*x3*y1*y3^2 - x2^2*y1*y2*y3^3 + x2^2*y1*y2*y3 + x2*x3^3*y1*y2^2 + x2*x3*y1*y2^2 + x3^2*y1*y2^3*y3))*(y1^2-x1^2-1-d*x1^2*y1^2) + (d^2*x1^2*x2^2*x3^3*y1*y2*y3^2 - d^2*x1^2*x2*x3^2*y1*y2^2*y3^3 - d^2*x1*x2^2*x3^2*y1^2*y2*y3^3 + d^2*x1*x2*x3^3*y1^2*y2^2*y3^2 + d*x1^3*x2^2*x3^2*y2*y3 + d*x1^3*x2*x3^3*y3^2 + d*x1^3*x2*x3*y2^2*y3^2 + d*x1^3*x3^2*y2*y3^3 - d*x1^2*x2^2*x3*y1*y2*y3^2 - d*x1^2*x2*x3^2*y1*y2^2*y3 + d*x1^2*x2*x3^2*y1*y3^3 + d*x1^2*x3^3*y1*y2*y3^2 - d*x1*x2^2*x3^2*y1^2*y2*y3 + d*x1*x2^2*x3^2*y2*y3 - d*x1*x2*x3^3*y1^2*y3^2 + d*x1*x2*x3^3*y3^2 - d*x1*x2*x3*y1^2*y2^2*y3^2 + d*x1*x2*x3*y2^2*y3^2 - d*x1*x3^2*y1^2*y2*y3^3 + d*x1*x3^2*y2*y3^3 + d*x2^2*x3*y1^3*y2*y3^2 - d*x2^2*x3*y1*y2*y3^2 + d*x2*x3^2*y1^3*y2^2*y3 - d*x2*x3^2*y1^3*y3^3 - d*x2*x3^2*y1*y2^2*y3 + d*x2*x3^2*y1*y3^3 - d*x3^3*y1^3*y2*y3^2 + d*x3^3*y1*y2*y3^2 + x1^3*x2*x3^3 - x1^3*x2*x3*y3^2 + x1^3*x2*x3 + x1^3*x3^2*y2*y3 - x1^3*y2*y3^3 + x1^3*y2*y3 + x1^2*x2*x3^2*y1*y3 - x1^2*x2*y1*y3^3 + x1^2*x2*y1*y3 + x1^2*x3^3*y1*y2 - x1^2*x3*y1*y2*y3^2 + x1^2*x3*y1*y2 - x1*x2*x3^3*y1^2 + x1*x2*x3^3 + x1*x2*x3*y1^2*y3^2 - x1*x2*x3*y1^2 - x1*x2*x3*y3^2 + x1*x2*x3 - x1*x3^2*y1^2*y2*y3 + x1*x3^2*y2*y3 + x1*y1^2*y2*y3^3 - x1*y1^2*y2*y3 - x1*y2*y3^3 + x1*y2*y3 - x2*x3^2*y1^3*y3 + x2*x3^2*y1*y3 + x2*y1^3*y3^3 - x2*y1^3*y3 - x2*y1*y3^3 + x2*y1*y3 - x3^3*y1^3*y2 + x3^3*y1*y2 + x3*y1^3*y2*y3^2 - x3*y1^3*y2 - x3*y1*y2*y3^2 + x3*y1*y2)*(y2^2-x2^2-1-d*x2^2*y2^2) + (-d*x1^2*x2^2*x3*y1*y2 + d*x1^2*x2*y1*y2^2*y3 + d*x1*x2^2*y1^2*y2*y3 - d*x1*x2*x3*y1^2*y2^2 - x1^3*x2^3*x3 - x1^3*x2^2*y2*y3 + x1^3*x2*x3*y2^2 - x1^3*x2*x3 + x1^3*y2^3*y3 - x1^3*y2*y3 - x1^2*x2^3*y1*y3 - x1^2*x2^2*x3*y1*y2 + x1^2*x2*y1*y2^2*y3 - x1^2*x2*y1*y3 + x1^2*x3*y1*y2^3 - x1^2*x3*y1*y2 + x1*x2^3*x3*y1^2 - x1*x2^3*x3 + x1*x2^2*y1^2*y2*y3 - x1*x2^2*y2*y3 - x1*x2*x3*y1^2*y2^2 + x1*x2*x3*y1^2 + x1*x2*x3*y2^2 - x1*x2*x3 - x1*y1^2*y2^3*y3 + x1*y1^2*y2*y3 + x1*y2^3*y3 - x1*y2*y3 + x2^3*y1^3*y3 - x2^3*y1*y3 + x2^2*x3*y1^3*y2 - x2^2*x3*y1*y2 - x2*y1^3*y2^2*y3 + x2*y1^3*y3 + x2*y1*y2^2*y3 - x2*y1*y3 - x3*y1^3*y2^3 + x3*y1^3*y2 + x3*y1*y2^3 - x3*y1*y2)*(y3^2-x3^2-1-d*x3^2*y3^2) := by grind
set_option maxHeartbeats 4000000 in
set_option maxRecDepth 100000 in
theorem assoc_y (x1 y1 x2 y2 x3 y3 d : Int) : ((y1*y2+x1*x2)*(1+(d*x1*x2*y1*y2))*y3+(x1*y2+y1*x2)*(1-(d*x1*x2*y1*y2))*x3)*((1+(d*x2*x3*y2*y3))*(1-(d*x2*x3*y2*y3))-d*(x1*y1*((x2*y3+y2*x3)*(y2*y3+x2*x3)))) - (y1*((y2*y3+x2*x3)*(1+(d*x2*x3*y2*y3)))+x1*((x2*y3+y2*x3)*(1-(d*x2*x3*y2*y3))))*((1+(d*x1*x2*y1*y2))*(1-(d*x1*x2*y1*y2))-d*((x1*y2+y1*x2)*(y1*y2+x1*x2)*(x3*y3))) = (d*x2*y2*(d*x1*x2^3*x3*y2^2*y3^2 + d*x1*x2^2*x3^2*y2^3*y3 - d*x2^3*x3^2*y1*y2^2*y3 - d*x2^2*x3*y1*y2^3*y3^2 + x1*x2^3*x3*y3^2 + x1*x2^2*y2*y3^3 - x1*x2^2*y2*y3 - x1*x2*x3^3*y2^2 - x1*x2*x3*y2^2 - x1*x3^2*y2^3*y3 - x2^3*x3^2*y1*y3 - x2^2*x3^3*y1*y2 - x2^2*x3*y1*y2 + x2*y1*y2^2*y3^3 - x2*y1*y2^2*y3 + x3*y1*y2^3*y3^2))*(y1^2-x1^2-1-d*x1^2*y1^2) + (d^2*x1^2*x2^2*x3^2*y1*y2*y3^3 - d^2*x1^2*x2*x3^3*y1*y2^2*y3^2 - d^2*x1*x2^2*x3^3*y1^2*y2*y3^2 + d^2*x1*x2*x3^2*y1^2*y2^2*y3^3 - d*x1^3*x2^2*x3*y2*y3^2 - d*x1^3*x2*x3^2*y2^2*y3 + d*x1^3*x2*x3^2*y3^3 + d*x1^3*x3^3*y2*y3^2 + d*x1^2*x2^2*x3^2*y1*y2*y3 + d*x1^2*x2*x3^3*y1*y3^2 + d*x1^2*x2*x3*y1*y2^2*y3^2 + d*x1^2*x3^2*y1*y2*y3^3 + d*x1*x2^2*x3*y1^2*y2*y3^2 - d*x1*x2^2*x3*y2*y3^2 + d*x1*x2*x3^2*y1^2*y2^2*y3 - d*x1*x2*x3^2*y1^2*y3^3 - d*x1*x2*x3^2*y2^2*y3 + d*x1*x2*x3^2*y3^3 - d*x1*x3^3*y1^2*y2*y3^2 + d*x1*x3^3*y2*y3^2 - d*x2^2*x3^2*y1^3*y2*y3 + d*x2^2*x3^2*y1*y2*y3 - d*x2*x3^3*y1^3*y3^2 + d*x2*x3^3*y1*y3^2 - d*x2*x3*y1^3*y2^2*y3^2 + d*x2*x3*y1*y2^2*y3^2 - d*x3^2*y1^3*y2*y3^3 + d*x3^2*y1*y2*y3^3 + x1^3*x2*x3^2*y3 - x1^3*x2*y3^3 + x1^3*x2*y3 + x1^3*x3^3*y2 - x1^3*x3*y2*y3^2 + x1^3*x3*y2 + x1^2*x2*x3^3*y1 - x1^2*x2*x3*y1*y3^2 + x1^2*x2*x3*y1 + x1^2*x3^2*y1*y2*y3 - x1^2*y1*y2*y3^3 + x1^2*y1*y2*y3 - x1*x2*x3^2*y1^2*y3 + x1*x2*x3^2*y3 + x1*x2*y1^2*y3^3 - x1*x2*y1^2*y3 - x1*x2*y3^3 + x1*x2*y3 - x1*x3^3*y1^2*y2 + x1*x3^3*y2 + x1*x3*y1^2*y2*y3^2 - x1*x3*y1^2*y2 - x1*x3*y2*y3^2 + x1*x3*y2 - x2*x3^3*y1^3 + x2*x3^3*y1 + x2*x3*y1^3*y3^2 - x2*x3*y1^3 - x2*x3*y1*y3^2 + x2*x3*y1 - x3^2*y1^3*y2*y3 + x3^2*y1*y2*y3 + y1^3*y2*y3^3 - y1^3*y2*y3 - y1*y2*y3^3 + y1*y2*y3)*(y2^2-x2^2-1-d*x2^2*y2^2) + (-d*x1^2*x2^2*y1*y2*y3 + d*x1^2*x2*x3*y1*y2^2 + d*x1*x2^2*x3*y1^2*y2 - d*x1*x2*y1^2*y2^2*y3 - x1^3*x2^3*y3 - x1^3*x2^2*x3*y2 + x1^3*x2*y2^2*y3 - x1^3*x2*y3 + x1^3*x3*y2^3 - x1^3*x3*y2 - x1^2*x2^3*x3*y1 - x1^2*x2^2*y1*y2*y3 + x1^2*x2*x3*y1*y2^2 - x1^2*x2*x3*y1 + x1^2*y1*y2^3*y3 - x1^2*y1*y2*y3 + x1*x2^3*y1^2*y3 - x1*x2^3*y3 + x1*x2^2*x3*y1^2*y2 - x1*x2^2*x3*y2 - x1*x2*y1^2*y2^2*y3 + x1*x2*y1^2*y3 + x1*x2*y2^2*y3 - x1*x2*y3 - x1*x3*y1^2*y2^3 + x1*x3*y1^2*y2 + x1*x3*y2^3 - x1*x3*y2 + x2^3*x3*y1^3 - x2^3*x3*y1 + x2^2*y1^3*y2*y3 - x2^2*y1*y2*y3 - x2*x3*y1^3*y2^2 + x2*x3*y1^3 + x2*x3*y1*y2^2 - x2*x3*y1 - y1^3*y2^3*y3 + y1^3*y2*y3 + y1*y2^3*y3 - y1*y2*y3)*(y3^2-x3^2-1-d*x3^2*y3^2) := by grind
theorem assoc_step {d A B C D ax ay cx cy q s t r k l px qx : Int} (x1 : Zp (A * (1 + q) - s)) (y1 : Zp (B * (1 - q) - t)) (x2 : Zp (C * (1 + r) - k)) (y2 : Zp (D * (1 - r) - l))
    (u1 : ¬ Zp (1 + q)) (v1 : ¬ Zp (1 - q)) (u2 : ¬ Zp (1 + r)) (v2 : ¬ Zp (1 - r)) (X1 : Zp (px * (1 + d * A * cx * B * cy) - (A * cy + B * cx))) (X2 : Zp (qx * (1 + d * ax * C * ay * D) - (ax * D + ay * C)))
    (U1 : ¬ Zp (1 + d * A * cx * B * cy)) (U2 : ¬ Zp (1 + d * ax * C * ay * D))
    (zx : Zp ((s * (1 - q) * cy + t * (1 + q) * cx) * ((1 + r) * (1 - r) + d * (ax * ay * (k * l))) - (ax * (l * (1 + r)) + ay * (k * (1 - r))) * ((1 + q) * (1 - q) + d * (s * t * (cx * cy))))) : Zp (px - qx) := by
  have n1 := (x1.mul ((1 - q) * cy)).add (y1.mul ((1 + q) * cx))
  have d1 := (x1.mul (d * cx * cy * (B * (1 - q)))).add (y1.mul (d * cx * cy * s))
  have n2 := (y2.mul ((1 + r) * ax)).add (x2.mul ((1 - r) * ay))
  have d2 := (x2.mul (d * ax * ay * (D * (1 - r)))).add (y2.mul (d * ax * ay * k))
  obtain ⟨D1, h1⟩ : ∃ D1, D1 = (1 + q) * (1 - q) + d * (s * t * (cx * cy)) := ⟨_, rfl⟩
  obtain ⟨D2, h2⟩ : ∃ D2, D2 = (1 + r) * (1 - r) + d * (ax * ay * (k * l)) := ⟨_, rfl⟩
  obtain ⟨N1, g1⟩ : ∃ N1, N1 = s * (1 - q) * cy + t * (1 + q) * cx := ⟨_, rfl⟩
  obtain ⟨N2, g2⟩ : ∃ N2, N2 = ax * (l * (1 + r)) + ay * (k * (1 - r)) := ⟨_, rfl⟩
  rw [← h1, ← h2, ← g1, ← g2] at zx
  have p1 : Zp (px * D1 - N1) := (((X1.mul ((1 + q) * (1 - q))).sub (d1.mul px)).add n1).to (by rw [h1, g1]; grind)
  have p2 : Zp (qx * D2 - N2) := (((X2.mul ((1 + r) * (1 - r))).sub (d2.mul qx)).add n2).to (by rw [h2, g2]; grind)
  have e1 : ¬ Zp D1 := fun h => Zp.ne_mul (Zp.ne_mul u1 v1) U1 ((h.add d1).to (by rw [h1]; grind))
  have e2 : ¬ Zp D2 := fun h => Zp.ne_mul (Zp.ne_mul u2 v2) U2 ((h.add d2).to (by rw [h2]; grind))
  exact Zp.cancel (a := D1 * D2) ((((p1.mul D2).sub (p2.mul D1)).add zx).to (by grind)) (Zp.ne_mul e1 e2)
set_option maxHeartbeats 4000000 in
set_option maxRecDepth 100000 in
theorem padd_assoc {a b c : PP} (ha : a.ok) (hb : b.ok) (hc : c.ok) : padd (padd a b) c = padd a (padd b c) := by
  have hab := padd_ok ha hb
  have hbc := padd_ok hb hc
  have x1 := padd_x ha hb
  have y1 := padd_y ha hb
  have x2 := padd_x hb hc
  have y2 := padd_y hb hc
  have u1 := compl_p ha.2.2 hb.2.2
  have v1 := compl_m ha.2.2 hb.2.2
  have u2 := compl_p hb.2.2 hc.2.2
  have v2 := compl_m hb.2.2 hc.2.2
  have X1 := padd_x hab hc
  have Y1 := padd_y hab hc
  have X2 := padd_x ha hbc
  have Y2 := padd_y ha hbc
  have U1 := compl_p hab.2.2 hc.2.2
  have V1 := compl_m hab.2.2 hc.2.2
  have U2 := compl_p ha.2.2 hbc.2.2
  have V2 := compl_m ha.2.2 hbc.2.2
  have e1 := ha.2.2
  have e2 := hb.2.2
  have e3 := hc.2.2
  unfold On at e1 e2 e3
  have lx1 : (padd (padd a b) c).x < P25 := fm_lt' _ _
  have ly1 : (padd (padd a b) c).y < P25 := fm_lt' _ _
  have lx2 : (padd a (padd b c)).x < P25 := fm_lt' _ _
  have ly2 : (padd a (padd b c)).y < P25 := fm_lt' _ _
  have kx := assoc_x a.x a.y b.x b.y c.x c.y dZ
  have ky := assoc_y a.x a.y b.x b.y c.x c.y dZ
  generalize padd (padd a b) c = P at *
  generalize padd a (padd b c) = Q at *
  obtain ⟨px, py⟩ := P
  obtain ⟨qx, qy⟩ := Q
  replace X1 : Zp ((px : Int) * _ - _) := X1
  replace X2 : Zp ((qx : Int) * _ - _) := X2
  replace Y1 : Zp ((py : Int) * _ - _) := Y1
  replace Y2 : Zp ((qy : Int) * _ - _) := Y2
  generalize ((padd a b).x : Int) = A at *
  generalize ((padd a b).y : Int) = B at *
  generalize ((padd b c).x : Int) = C at *
  generalize ((padd b c).y : Int) = D at *
  generalize (a.x : Int) = ax at *
  generalize (a.y : Int) = ay at *
  generalize (b.x : Int) = bx at *
  generalize (b.y : Int) = by' at *
  generalize (c.x : Int) = cx at *
  generalize (c.y : Int) = cy at *
  have zx := ((e1.mul (-dZ*bx*by'*(dZ*ax*bx^3*cx^2*by'^2*cy + dZ*ax*bx^2*cx*by'^3*cy^2 - dZ*bx^3*cx*ay*by'^2*cy^2 - dZ*bx^2*cx^2*ay*by'^3*cy + ax*bx^3*cx^2*cy + ax*bx^2*cx^3*by' + ax*bx^2*cx*by' - ax*bx*by'^2*cy^3 + ax*bx*by'^2*cy - ax*cx*by'^3*cy^2 - bx^3*cx*ay*cy^2 - bx^2*ay*by'*cy^3 + bx^2*ay*by'*cy + bx*cx^3*ay*by'^2 + bx*cx*ay*by'^2 + cx^2*ay*by'^3*cy))).add (e2.mul (dZ^2*ax^2*bx^2*cx^3*ay*by'*cy^2 - dZ^2*ax^2*bx*cx^2*ay*by'^2*cy^3 - dZ^2*ax*bx^2*cx^2*ay^2*by'*cy^3 + dZ^2*ax*bx*cx^3*ay^2*by'^2*cy^2 + dZ*ax^3*bx^2*cx^2*by'*cy + dZ*ax^3*bx*cx^3*cy^2 + dZ*ax^3*bx*cx*by'^2*cy^2 + dZ*ax^3*cx^2*by'*cy^3 - dZ*ax^2*bx^2*cx*ay*by'*cy^2 - dZ*ax^2*bx*cx^2*ay*by'^2*cy + dZ*ax^2*bx*cx^2*ay*cy^3 + dZ*ax^2*cx^3*ay*by'*cy^2 - dZ*ax*bx^2*cx^2*ay^2*by'*cy + dZ*ax*bx^2*cx^2*by'*cy - dZ*ax*bx*cx^3*ay^2*cy^2 + dZ*ax*bx*cx^3*cy^2 - dZ*ax*bx*cx*ay^2*by'^2*cy^2 + dZ*ax*bx*cx*by'^2*cy^2 - dZ*ax*cx^2*ay^2*by'*cy^3 + dZ*ax*cx^2*by'*cy^3 + dZ*bx^2*cx*ay^3*by'*cy^2 - dZ*bx^2*cx*ay*by'*cy^2 + dZ*bx*cx^2*ay^3*by'^2*cy - dZ*bx*cx^2*ay^3*cy^3 - dZ*bx*cx^2*ay*by'^2*cy + dZ*bx*cx^2*ay*cy^3 - dZ*cx^3*ay^3*by'*cy^2 + dZ*cx^3*ay*by'*cy^2 + ax^3*bx*cx^3 - ax^3*bx*cx*cy^2 + ax^3*bx*cx + ax^3*cx^2*by'*cy - ax^3*by'*cy^3 + ax^3*by'*cy + ax^2*bx*cx^2*ay*cy - ax^2*bx*ay*cy^3 + ax^2*bx*ay*cy + ax^2*cx^3*ay*by' - ax^2*cx*ay*by'*cy^2 + ax^2*cx*ay*by' - ax*bx*cx^3*ay^2 + ax*bx*cx^3 + ax*bx*cx*ay^2*cy^2 - ax*bx*cx*ay^2 - ax*bx*cx*cy^2 + ax*bx*cx - ax*cx^2*ay^2*by'*cy + ax*cx^2*by'*cy + ax*ay^2*by'*cy^3 - ax*ay^2*by'*cy - ax*by'*cy^3 + ax*by'*cy - bx*cx^2*ay^3*cy + bx*cx^2*ay*cy + bx*ay^3*cy^3 - bx*ay^3*cy - bx*ay*cy^3 + bx*ay*cy - cx^3*ay^3*by' + cx^3*ay*by' + cx*ay^3*by'*cy^2 - cx*ay^3*by' - cx*ay*by'*cy^2 + cx*ay*by'))).add (e3.mul (-dZ*ax^2*bx^2*cx*ay*by' + dZ*ax^2*bx*ay*by'^2*cy + dZ*ax*bx^2*ay^2*by'*cy - dZ*ax*bx*cx*ay^2*by'^2 - ax^3*bx^3*cx - ax^3*bx^2*by'*cy + ax^3*bx*cx*by'^2 - ax^3*bx*cx + ax^3*by'^3*cy - ax^3*by'*cy - ax^2*bx^3*ay*cy - ax^2*bx^2*cx*ay*by' + ax^2*bx*ay*by'^2*cy - ax^2*bx*ay*cy + ax^2*cx*ay*by'^3 - ax^2*cx*ay*by' + ax*bx^3*cx*ay^2 - ax*bx^3*cx + ax*bx^2*ay^2*by'*cy - ax*bx^2*by'*cy - ax*bx*cx*ay^2*by'^2 + ax*bx*cx*ay^2 + ax*bx*cx*by'^2 - ax*bx*cx - ax*ay^2*by'^3*cy + ax*ay^2*by'*cy + ax*by'^3*cy - ax*by'*cy + bx^3*ay^3*cy - bx^3*ay*cy + bx^2*cx*ay^3*by' - bx^2*cx*ay*by' - bx*ay^3*by'^2*cy + bx*ay^3*cy + bx*ay*by'^2*cy - bx*ay*cy - cx*ay^3*by'^3 + cx*ay^3*by' + cx*ay*by'^3 - cx*ay*by'))
  have zy := ((e1.mul (dZ*bx*by'*(dZ*ax*bx^3*cx*by'^2*cy^2 + dZ*ax*bx^2*cx^2*by'^3*cy - dZ*bx^3*cx^2*ay*by'^2*cy - dZ*bx^2*cx*ay*by'^3*cy^2 + ax*bx^3*cx*cy^2 + ax*bx^2*by'*cy^3 - ax*bx^2*by'*cy - ax*bx*cx^3*by'^2 - ax*bx*cx*by'^2 - ax*cx^2*by'^3*cy - bx^3*cx^2*ay*cy - bx^2*cx^3*ay*by' - bx^2*cx*ay*by' + bx*ay*by'^2*cy^3 - bx*ay*by'^2*cy + cx*ay*by'^3*cy^2))).add (e2.mul (dZ^2*ax^2*bx^2*cx^2*ay*by'*cy^3 - dZ^2*ax^2*bx*cx^3*ay*by'^2*cy^2 - dZ^2*ax*bx^2*cx^3*ay^2*by'*cy^2 + dZ^2*ax*bx*cx^2*ay^2*by'^2*cy^3 - dZ*ax^3*bx^2*cx*by'*cy^2 - dZ*ax^3*bx*cx^2*by'^2*cy + dZ*ax^3*bx*cx^2*cy^3 + dZ*ax^3*cx^3*by'*cy^2 + dZ*ax^2*bx^2*cx^2*ay*by'*cy + dZ*ax^2*bx*cx^3*ay*cy^2 + dZ*ax^2*bx*cx*ay*by'^2*cy^2 + dZ*ax^2*cx^2*ay*by'*cy^3 + dZ*ax*bx^2*cx*ay^2*by'*cy^2 - dZ*ax*bx^2*cx*by'*cy^2 + dZ*ax*bx*cx^2*ay^2*by'^2*cy - dZ*ax*bx*cx^2*ay^2*cy^3 - dZ*ax*bx*cx^2*by'^2*cy + dZ*ax*bx*cx^2*cy^3 - dZ*ax*cx^3*ay^2*by'*cy^2 + dZ*ax*cx^3*by'*cy^2 - dZ*bx^2*cx^2*ay^3*by'*cy + dZ*bx^2*cx^2*ay*by'*cy - dZ*bx*cx^3*ay^3*cy^2 + dZ*bx*cx^3*ay*cy^2 - dZ*bx*cx*ay^3*by'^2*cy^2 + dZ*bx*cx*ay*by'^2*cy^2 - dZ*cx^2*ay^3*by'*cy^3 + dZ*cx^2*ay*by'*cy^3 + ax^3*bx*cx^2*cy - ax^3*bx*cy^3 + ax^3*bx*cy + ax^3*cx^3*by' - ax^3*cx*by'*cy^2 + ax^3*cx*by' + ax^2*bx*cx^3*ay - ax^2*bx*cx*ay*cy^2 + ax^2*bx*cx*ay + ax^2*cx^2*ay*by'*cy - ax^2*ay*by'*cy^3 + ax^2*ay*by'*cy - ax*bx*cx^2*ay^2*cy + ax*bx*cx^2*cy + ax*bx*ay^2*cy^3 - ax*bx*ay^2*cy - ax*bx*cy^3 + ax*bx*cy - ax*cx^3*ay^2*by' + ax*cx^3*by' + ax*cx*ay^2*by'*cy^2 - ax*cx*ay^2*by' - ax*cx*by'*cy^2 + ax*cx*by' - bx*cx^3*ay^3 + bx*cx^3*ay + bx*cx*ay^3*cy^2 - bx*cx*ay^3 - bx*cx*ay*cy^2 + bx*cx*ay - cx^2*ay^3*by'*cy + cx^2*ay*by'*cy + ay^3*by'*cy^3 - ay^3*by'*cy - ay*by'*cy^3 + ay*by'*cy))).add (e3.mul (-dZ*ax^2*bx^2*ay*by'*cy + dZ*ax^2*bx*cx*ay*by'^2 + dZ*ax*bx^2*cx*ay^2*by' - dZ*ax*bx*ay^2*by'^2*cy - ax^3*bx^3*cy - ax^3*bx^2*cx*by' + ax^3*bx*by'^2*cy - ax^3*bx*cy + ax^3*cx*by'^3 - ax^3*cx*by' - ax^2*bx^3*cx*ay - ax^2*bx^2*ay*by'*cy + ax^2*bx*cx*ay*by'^2 - ax^2*bx*cx*ay + ax^2*ay*by'^3*cy - ax^2*ay*by'*cy + ax*bx^3*ay^2*cy - ax*bx^3*cy + ax*bx^2*cx*ay^2*by' - ax*bx^2*cx*by' - ax*bx*ay^2*by'^2*cy + ax*bx*ay^2*cy + ax*bx*by'^2*cy - ax*bx*cy - ax*cx*ay^2*by'^3 + ax*cx*ay^2*by' + ax*cx*by'^3 - ax*cx*by' + bx^3*cx*ay^3 - bx^3*cx*ay + bx^2*ay^3*by'*cy - bx^2*ay*by'*cy - bx*cx*ay^3*by'^2 + bx*cx*ay^3 + bx*cx*ay*by'^2 - bx*cx*ay - ay^3*by'^3*cy + ay^3*by'*cy + ay*by'^3*cy - ay*by'*cy))
  rw [← kx] at zx
  rw [← ky] at zy
  clear kx ky e1 e2 e3 hab hbc
  generalize dZ * ax * bx * ay * by' = q at *
  generalize ax * by' + ay * bx = s at *
  generalize ay * by' + ax * bx = t at *
  generalize dZ * bx * cx * by' * cy = r at *
  generalize bx * cy + by' * cx = k at *
  generalize by' * cy + bx * cx = l at *
  have ex : px = qx := Zp.inj lx1 lx2 (assoc_step x1 y1 x2 y2 u1 v1 u2 v2 X1 X2 U1 U2 zx)
  have ey : py = qy := Zp.inj ly1 ly2 (assoc_step (d := -dZ) (cx := cy) (cy := cx) (ax := ay) (ay := ax) x1 y1 x2 y2 u1 v1 u2 v2 (Y1.to (by grind)) (Y2.to (by grind)) (fun h => V1 (h.to (by grind))) (fun h => V2 (h.to (by grind))) (zy.to (by grind)))
  rw [ex, ey]

/-! multiples -/
def smul : Nat → PP → PP
  | 0, _ => pzero
  | n + 1, p => padd (smul n p) p
theorem smul_ok {p : PP} (h : p.ok) : ∀ n, (smul n p).ok
  | 0 => pzero_ok
  | n + 1 => padd_ok (smul_ok h n) h
theorem smul_one {p : PP} (h : p.ok) : smul 1 p = p := by
  show padd pzero p = p
  rw [padd_comm pzero_ok h, padd_zero h]
theorem smul_add {p : PP} (h : p.ok) (m : Nat) : ∀ n, smul (m + n) p = padd (smul m p) (smul n p)
  | 0 => (padd_zero (smul_ok h m)).symm
  | n + 1 => by
    show padd (smul (m + n) p) p = padd (smul m p) (padd (smul n p) p)
    rw [smul_add h m n, padd_assoc (smul_ok h m) (smul_ok h n) h]
theorem smul_pzero : ∀ n, smul n pzero = pzero
  | 0 => rfl
  | n + 1 => by
    show padd (smul n pzero) pzero = pzero
    rw [smul_pzero n, padd_zero pzero_ok]
theorem smul_mul {p : PP} (h : p.ok) (n : Nat) : ∀ m, smul (n * m) p = smul m (smul n p)
  | 0 => rfl
  | m + 1 => by
    show smul (n * m + n) p = padd (smul m (smul n p)) (smul n p)
    rw [smul_add h, smul_mul h n m]

/-! the sums' formulas -/
theorem zm {u v : Nat} {U V : Int} (hu : Zp ((u : Int) - U)) (hv : Zp ((v : Int) - V)) : Zp ((fm u v : Int) - U * V) := ((zfm u v).add ((hv.mul (u : Int)).add (hu.mul V))).to (by grind)
theorem za {u v : Nat} {U V : Int} (hu : Zp ((u : Int) - U)) (hv : Zp ((v : Int) - V)) : Zp ((fa u v : Int) - (U + V)) := ((zfa u v).add (hu.add hv)).to (by grind)
theorem zs {u v : Nat} {U V : Int} (hl : v < P25) (hu : Zp ((u : Int) - U)) (hv : Zp ((v : Int) - V)) : Zp ((fs u v : Int) - (U - V)) := ((zfs u v (Nat.le_of_lt hl)).add (hu.sub hv)).to (by grind)
theorem zr (n : Nat) : Zp ((n : Int) - n) := Zp.zero.to (by omega)
theorem zrd : Zp ((dN : Int) - dZ) := Zp.zero.to (by unfold dZ; omega)
structure Rep3 (X Y Z : Nat) (a : PP) : Prop where
  ok : a.ok
  lx : X < P25
  ly : Y < P25
  lz : Z < P25
  nz : ¬ Zp (Z : Int)
  hx : Zp ((X : Int) - a.x * Z)
  hy : Zp ((Y : Int) - a.y * Z)
structure Rep (X Y Z T : Nat) (a : PP) : Prop extends Rep3 X Y Z a where
  lt : T < P25
  ht : Zp ((T : Int) - a.x * a.y * Z)
def gM (X1 Y1 X2 Y2 : Nat) : Nat := fm (fs Y1 X1) (fs Y2 X2)
def gN (X1 Y1 X2 Y2 : Nat) : Nat := fm (fa Y1 X1) (fa Y2 X2)
def gC (T1 T2 : Nat) : Nat := fm (fm T1 (fa dN dN)) T2
def gD (Z1 Z2 : Nat) : Nat := fm (fa Z1 Z1) Z2
def gE (X1 Y1 X2 Y2 : Nat) : Nat := fs (gN X1 Y1 X2 Y2) (gM X1 Y1 X2 Y2)
def gH (X1 Y1 X2 Y2 : Nat) : Nat := fa (gN X1 Y1 X2 Y2) (gM X1 Y1 X2 Y2)
def gF (Z1 T1 Z2 T2 : Nat) : Nat := fs (gD Z1 Z2) (gC T1 T2)
def gG (Z1 T1 Z2 T2 : Nat) : Nat := fa (gD Z1 Z2) (gC T1 T2)
theorem rep_add {X1 Y1 Z1 T1 X2 Y2 Z2 T2 : Nat} {a b : PP} (ha : Rep X1 Y1 Z1 T1 a) (hb : Rep X2 Y2 Z2 T2 b) :
    Rep (fm (gE X1 Y1 X2 Y2) (gF Z1 T1 Z2 T2)) (fm (gG Z1 T1 Z2 T2) (gH X1 Y1 X2 Y2)) (fm (gF Z1 T1 Z2 T2) (gG Z1 T1 Z2 T2)) (fm (gE X1 Y1 X2 Y2) (gH X1 Y1 X2 Y2)) (padd a b) := by
  have hm := zm (zs ha.lx ha.hy ha.hx) (zs hb.lx hb.hy hb.hx)
  have hn := zm (za ha.hy ha.hx) (za hb.hy hb.hx)
  have hc := zm (zm ha.ht (za (zrd) (zrd))) hb.ht
  have hd := zm (za (zr Z1) (zr Z1)) (zr Z2)
  have he := zs (fm_lt' _ _) hn hm
  have hh := za hn hm
  have hf := zs (fm_lt' _ _) hd hc
  have hg := za hd hc
  have hX := padd_x ha.ok hb.ok
  have hY := padd_y ha.ok hb.ok
  have hU := compl_p ha.ok.2.2 hb.ok.2.2
  have hV := compl_m ha.ok.2.2 hb.ok.2.2
  change Zp (((gE X1 Y1 X2 Y2 : Nat) : Int) - _) at he
  change Zp (((gF Z1 T1 Z2 T2 : Nat) : Int) - _) at hf
  change Zp (((gG Z1 T1 Z2 T2 : Nat) : Int) - _) at hg
  change Zp (((gH X1 Y1 X2 Y2 : Nat) : Int) - _) at hh
  have hef := zm he hf
  have hgh := zm hg hh
  have hfg := zm hf hg
  have heh := zm he hh
  clear hm hn hc hd he hh hf hg
  have zz := Zp.ne_mul ha.nz hb.nz
  have hok := padd_ok ha.ok hb.ok
  clear ha hb
  generalize hX0 : ((padd a b).x : Int) = X at *
  generalize hY0 : ((padd a b).y : Int) = Y at *
  generalize (gE X1 Y1 X2 Y2 : Nat) = e at *
  generalize (gF Z1 T1 Z2 T2 : Nat) = f at *
  generalize (gG Z1 T1 Z2 T2 : Nat) = g at *
  generalize (gH X1 Y1 X2 Y2 : Nat) = h at *
  generalize (Z1 : Int) = z1 at *
  generalize (Z2 : Int) = z2 at *
  generalize (a.x : Int) = x1 at *
  generalize (a.y : Int) = y1 at *
  generalize (b.x : Int) = x2 at *
  generalize (b.y : Int) = y2 at *
  obtain ⟨F, hF⟩ : ∃ F : Int, F = 2 * (z1 * z2) * (1 - dZ * x1 * x2 * y1 * y2) := ⟨_, rfl⟩
  obtain ⟨G, hG⟩ : ∃ G : Int, G = 2 * (z1 * z2) * (1 + dZ * x1 * x2 * y1 * y2) := ⟨_, rfl⟩
  obtain ⟨E, hE⟩ : ∃ E : Int, E = 2 * (z1 * z2) * (x1 * y2 + y1 * x2) := ⟨_, rfl⟩
  obtain ⟨H, hH⟩ : ∃ H : Int, H = 2 * (z1 * z2) * (y1 * y2 + x1 * x2) := ⟨_, rfl⟩
  have kef : Zp (((fm e f : Nat) : Int) - E * F) := hef.to (by rw [hE, hF]; grind)
  have kgh : Zp (((fm g h : Nat) : Int) - G * H) := hgh.to (by rw [hG, hH]; grind)
  have kfg : Zp (((fm f g : Nat) : Int) - F * G) := hfg.to (by rw [hF, hG]; grind)
  have keh : Zp (((fm e h : Nat) : Int) - E * H) := heh.to (by rw [hE, hH]; grind)
  have kX : Zp (X * G - E) := (hX.mul (2 * (z1 * z2))).to (by rw [hG, hE]; grind)
  have kY : Zp (Y * F - H) := (hY.mul (2 * (z1 * z2))).to (by rw [hF, hH]; grind)
  have nF : ¬ Zp F := fun k => Zp.ne_mul (Zp.ne_mul two_ne zz) hV (k.to (by rw [hF]))
  have nG : ¬ Zp G := fun k => Zp.ne_mul (Zp.ne_mul two_ne zz) hU (k.to (by rw [hG]))
  clear hef hgh hfg heh hX hY hU hV hF hG hE hH zz
  refine ⟨⟨hok, fm_lt' _ _, fm_lt' _ _, fm_lt' _ _, fun k => Zp.ne_mul nF nG ((k.sub kfg).to (by grind)), ?_, ?_⟩, fm_lt' _ _, ?_⟩
  · rw [hX0]
    exact ((kef.sub (kfg.mul X)).sub (kX.mul F)).to (by grind)
  · rw [hY0]
    exact ((kgh.sub (kfg.mul Y)).sub (kY.mul G)).to (by grind)
  · rw [hX0, hY0]
    exact (((keh.sub (kfg.mul (X * Y))).sub (kX.mul (Y * F))).sub (kY.mul E)).to (by grind)
theorem rep_neg {X Y Z T : Nat} {a : PP} (h : Rep X Y Z T a) : Rep (fs 0 X) Y Z (fs 0 T) (pneg a) := by
  have h1 := zs h.lx (zr 0) h.hx
  have h2 := zs h.lt (zr 0) h.ht
  have h3 := zfs 0 a.x (Nat.le_of_lt h.ok.1)
  refine ⟨⟨pneg_ok h.ok, fs_lt' _ _, h.ly, h.lz, h.nz, ?_, h.hy⟩, fs_lt' _ _, ?_⟩
  · unfold pneg
    simp only
    exact (h1.sub (h3.mul (Z : Int))).to (by grind)
  · unfold pneg
    simp only
    exact (h2.sub (h3.mul (a.y * Z : Int))).to (by grind)
/-- the document's formula -/
theorem rep3_add {X1 Y1 Z1 X2 Y2 Z2 : Nat} {a b : PP} (ha : Rep3 X1 Y1 Z1 a) (hb : Rep3 X2 Y2 Z2 b) : Rep3 (qX dN X1 Y1 Z1 X2 Y2 Z2) (qY dN X1 Y1 Z1 X2 Y2 Z2) (qZ dN X1 Y1 Z1 X2 Y2 Z2) (padd a b) := by
  have hA := zm (zr Z1) (zr Z2)
  have hB := zm hA hA
  have hC := zm ha.hx hb.hx
  have hE := zm ha.hy hb.hy
  have hF := zm (zm (zrd) hC) hE
  have hG := zs (fm_lt' _ _) hB hF
  have hH := za hB hF
  have hK := zs (fm_lt' _ _) (zs (fm_lt' _ _) (zm (za ha.hx ha.hy) (za hb.hx hb.hy)) hC) hE
  have kx := zm (zm hA hG) hK
  have ky := zm (zm hA hH) (za hE hC)
  have kz := zm hG hH
  have hX := padd_x ha.ok hb.ok
  have hY := padd_y ha.ok hb.ok
  have hU := compl_p ha.ok.2.2 hb.ok.2.2
  have hV := compl_m ha.ok.2.2 hb.ok.2.2
  have zz := Zp.ne_mul ha.nz hb.nz
  have hok := padd_ok ha.ok hb.ok
  clear hA hB hC hE hF hG hH hK ha hb
  refine ⟨hok, fm_lt' _ _, fm_lt' _ _, fm_lt' _ _, ?_, ?_, ?_⟩
  all_goals
    try unfold qX
    try unfold qY
    try unfold qZ
    try unfold qG
    try unfold qH
    generalize ((padd a b).x : Int) = X at *
    generalize ((padd a b).y : Int) = Y at *
    generalize (Z1 : Int) = z1 at *
    generalize (Z2 : Int) = z2 at *
    generalize (a.x : Int) = x1 at *
    generalize (a.y : Int) = y1 at *
    generalize (b.x : Int) = x2 at *
    generalize (b.y : Int) = y2 at *
    obtain ⟨G, hG⟩ : ∃ G : Int, G = (z1 * z2) ^ 2 * (1 - dZ * x1 * x2 * y1 * y2) := ⟨_, rfl⟩
    obtain ⟨H, hH⟩ : ∃ H : Int, H = (z1 * z2) ^ 2 * (1 + dZ * x1 * x2 * y1 * y2) := ⟨_, rfl⟩
  · intro k
    have nG : ¬ Zp G := fun k => Zp.ne_mul (Zp.ne_mul zz zz) hV (k.to (by rw [hG]; grind))
    have nH : ¬ Zp H := fun k => Zp.ne_mul (Zp.ne_mul zz zz) hU (k.to (by rw [hH]; grind))
    exact Zp.ne_mul nG nH ((k.sub kz).to (by rw [hG, hH]; grind))
  · have lz := kz.mul X
    have l1 := hX.mul ((z1 * z2) ^ 2 * G)
    exact ((kx.sub lz).sub l1).to (by rw [hG]; grind)
  · have lz := kz.mul Y
    have l1 := hY.mul ((z1 * z2) ^ 2 * H)
    exact ((ky.sub lz).sub l1).to (by rw [hH]; grind)
theorem rep3_neg {X Y Z : Nat} {a : PP} (h : Rep3 X Y Z a) : Rep3 (fs 0 X) Y Z (pneg a) := by
  have h1 := zs h.lx (zr 0) h.hx
  have h3 := zfs 0 a.x (Nat.le_of_lt h.ok.1)
  refine ⟨pneg_ok h.ok, fs_lt' _ _, h.ly, h.lz, h.nz, ?_, h.hy⟩
  unfold pneg
  simp only
  exact (h1.sub (h3.mul (Z : Int))).to (by grind)
theorem rep_zero : Rep 0 1 1 0 pzero := ⟨⟨pzero_ok, p25_pos, by unfold P25; decide, by unfold P25; decide, Zp.one, Zp.zero.to (by unfold pzero; simp), Zp.zero.to (by unfold pzero; simp)⟩, p25_pos, Zp.zero.to (by unfold pzero; simp)⟩
/-- the places -/
theorem rep_aff {X Y Z : Nat} {a : PP} (h : Rep3 X Y Z a) : fm X (fi Z) = a.x ∧ fm Y (fi Z) = a.y := by
  have h1 := zquo (v := Z) h.hx (zr Z) h.lz h.nz
  have h2 := zquo (v := Z) h.hy (zr Z) h.lz h.nz
  exact ⟨Zp.inj (fm_lt' _ _) h.ok.1 (Zp.cancel (h1.to (by grind)) h.nz), Zp.inj (fm_lt' _ _) h.ok.2.1 (Zp.cancel (h2.to (by grind)) h.nz)⟩
def pbytes (a : PP) : Nat := a.y + 2 ^ 255 * (a.x % 2)
theorem rep_bytes {X Y Z : Nat} {a : PP} (h : Rep3 X Y Z a) : pN X Y Z = pbytes a := by
  unfold pN pbytes
  rw [(rep_aff h).1, (rep_aff h).2]
/-- two of one point -/
theorem rep_same {X1 Y1 Z1 X2 Y2 Z2 : Nat} {a b : PP} (ha : Rep3 X1 Y1 Z1 a) (hb : Rep3 X2 Y2 Z2 b) : (fm X1 Z2 = fm X2 Z1 ∧ fm Y1 Z2 = fm Y2 Z1) ↔ a = b := by
  have x1 := zm ha.hx (zr Z2)
  have x2 := zm hb.hx (zr Z1)
  have y1 := zm ha.hy (zr Z2)
  have y2 := zm hb.hy (zr Z1)
  have zz := Zp.ne_mul ha.nz hb.nz
  constructor
  · rintro ⟨e1, e2⟩
    rw [e1] at x1
    rw [e2] at y1
    obtain ⟨ax, ay⟩ := a
    obtain ⟨bx, by'⟩ := b
    have f1 : ax = bx := Zp.inj ha.ok.1 hb.ok.1 (Zp.cancel ((x2.sub x1).to (by simp only; grind)) zz)
    have f2 : ay = by' := Zp.inj ha.ok.2.1 hb.ok.2.1 (Zp.cancel ((y2.sub y1).to (by simp only; grind)) zz)
    rw [f1, f2]
  · rintro rfl
    exact ⟨Zp.inj (fm_lt' _ _) (fm_lt' _ _) ((x1.sub x2).to (by grind)), Zp.inj (fm_lt' _ _) (fm_lt' _ _) ((y1.sub y2).to (by grind))⟩
/-- a point that is got -/
theorem on_got {y x : Nat} (h : x * x % P25 = xx y) : On x y := by
  have hd : ¬ Zp (1 + dZ * y ^ 2) := fun k => by
    have hy : ¬ Zp (y : Int) := fun e => Zp.one ((k.sub (e.mul (dZ * y))).to (by grind))
    obtain ⟨s, hs⟩ := zinv hy
    exact not_square (iZ * s) ((((iZ_sq.mul (s ^ 2)).sub (k.mul (s ^ 2))).add (hs.mul (dZ * (y * s + 1)))).to (by grind))
  have h1 := zmod (x * x)
  rw [h] at h1
  have h2 := zs (v := 1) (by unfold P25; decide) (zm (zr y) (zr y)) (zr 1)
  have h3 := za (zm (zrd) (zm (zr y) (zr y))) (zr 1)
  have h4 := zquo h2 h3 (fa_lt' _ _) (fun k => hd (k.to (by simp; grind)))
  change Zp (((xx y : Nat) : Int) * _ - _) at h4
  unfold On
  rw [Int.natCast_mul] at h1
  generalize ((xx y : Nat) : Int) = u at *
  refine ((h4.sub (h1.mul (dZ * y ^ 2 + 1))).mul (-1)).to ?_
  simp
  grind
end Go.Proofs.Ytpkoniebbkkmjaa

/- A square has a root (plain). -/
import Derived.Test.YtddgkoheihlbdaaFldInverts
namespace Go.Proofs.Ytddgkoheihlbdaa
open Go.RowKit

theorem pr_dvd {p a b : Nat} (hp : Pr p) (h : p ∣ a * b) : p ∣ a ∨ p ∣ b := by
  by_cases ha : p ∣ a
  · exact .inl ha
  · have h0 : a % p ≠ 0 := fun h => ha (Nat.dvd_of_mod_eq_zero h)
    have hlt := Nat.mod_lt a (show 0 < p by have := hp.1; omega)
    have hc := hp.2 (a % p) (by omega) hlt
    have hc2 : Nat.Coprime p a := by
      unfold Nat.Coprime at hc ⊢
      rw [Nat.gcd_rec]
      exact hc
    exact .inr (hc2.dvd_of_dvd_mul_left h)

/-- two numbers of one square: the same or the opposite -/
theorem sq_same {p r u : Nat} (hp : Pr p) (hr : r < p) (hu : u < p) (h : r * r % p = u * u % p) : r = u ∨ (r + u) % p = 0 := by
  rcases Nat.le_total r u with hle | hle
  · obtain ⟨d, rfl⟩ : ∃ d, u = r + d := ⟨u - r, by omega⟩
    have h1 : p ∣ (r + d) * (r + d) - r * r := dvd_of_mod h
    have e : (r + d) * (r + d) - r * r = d * (r + (r + d)) := by
      have : (r + d) * (r + d) = r * r + d * (r + (r + d)) := by grind
      omega
    rw [e] at h1
    rcases pr_dvd hp h1 with h2 | h2
    · have : d = 0 := Nat.eq_zero_of_dvd_of_lt h2 (by omega)
      exact .inl (by omega)
    · exact .inr (Nat.mod_eq_zero_of_dvd h2)
  · obtain ⟨d, rfl⟩ : ∃ d, r = u + d := ⟨r - u, by omega⟩
    have h1 : p ∣ (u + d) * (u + d) - u * u := dvd_of_mod h.symm
    have e : (u + d) * (u + d) - u * u = d * (u + d + u) := by
      have : (u + d) * (u + d) = u * u + d * (u + d + u) := by grind
      omega
    rw [e] at h1
    rcases pr_dvd hp h1 with h2 | h2
    · have : d = 0 := Nat.eq_zero_of_dvd_of_lt h2 (by omega)
      exact .inl (by omega)
    · exact .inr (Nat.mod_eq_zero_of_dvd h2)

/-- Euler: a power to the half of p - 1 is 1 or -1 -/
theorem euler {p u h : Nat} (hp : Pr p) (hu : 0 < u) (hul : u < p) (hh : 2 * h = p - 1) : u ^ h % p = 1 ∨ u ^ h % p = p - 1 := by
  have h1 := fermat hp (hp.2 u hu hul)
  have hp1 := hp.1
  have e : u ^ h % p * (u ^ h % p) % p = 1 * 1 % p := by
    rw [← Nat.mul_mod, ← Nat.pow_add, show h + h = p - 1 by omega, h1, Nat.one_mul, Nat.mod_eq_of_lt hp1]
  have hlt := Nat.mod_lt (u ^ h) (show 0 < p by omega)
  rcases sq_same hp hlt hp1 e with h2 | h2
  · exact .inl h2
  · refine .inr ?_
    by_cases hz : u ^ h % p + 1 < p
    · rw [Nat.mod_eq_of_lt hz] at h2; omega
    · omega

/-- the first try's square -/
theorem try_sq {p u e h : Nat} (hp : Pr p) (hu : u < p) (hh : 2 * h = p - 1) (he : 4 * e = h + 2) :
    (u * u % p) ^ e % p * ((u * u % p) ^ e % p) % p = u * u % p ∨ ((u * u % p) ^ e % p * ((u * u % p) ^ e % p) + u * u) % p = 0 := by
  have hp1 := hp.1
  have e1 : (u * u % p) ^ e % p * ((u * u % p) ^ e % p) % p = u * u * u ^ h % p := by
    rw [← Nat.mul_mod, ← Nat.pow_add, ← Nat.pow_mod, ← Nat.pow_two, ← Nat.pow_mul, ← Nat.pow_add, show 2 * (e + e) = 2 + h by omega]
  rcases Nat.eq_zero_or_pos u with h0 | h0
  · subst h0
    left
    rw [e1]
    simp
  · rcases euler hp h0 hu hh with e2 | e2
    · left
      rw [e1, Nat.mul_mod, e2, Nat.mul_one, Nat.mod_mod]
    · right
      rw [← Nat.mod_add_mod, e1, Nat.mul_mod, e2]
      obtain ⟨k, rfl⟩ : ∃ k, p = k + 1 := ⟨p - 1, by omega⟩
      rw [Nat.add_sub_cancel, Nat.mod_mul_mod, Nat.mod_add_mod, ← Nat.mul_succ, Nat.succ_eq_add_one, Nat.mul_mod_left]

/-- the square's root, generally: s a root of -1 -/
theorem root_of_sq {p u e h s : Nat} (hp : Pr p) (hu : u < p) (hh : 2 * h = p - 1) (he : 4 * e = h + 2) (hs : s * s % p = p - 1) (q : Nat) (hq : q = (u * u % p) ^ e % p) :
    (bif q * q % p == u * u % p then q else q * s % p) * (bif q * q % p == u * u % p then q else q * s % p) % p = u * u % p := by
  by_cases hc : q * q % p = u * u % p
  · rw [show (q * q % p == u * u % p) = true by simp [hc], cond_true]
    exact hc
  · rw [show (q * q % p == u * u % p) = false by simp [hc], cond_false]
    have h2 : (q * q + u * u) % p = 0 := by
      rcases try_sq hp hu hh he with h | h
      · rw [← hq] at h; exact absurd h hc
      · rw [← hq] at h; exact h
    have hp1 := hp.1
    rw [← Nat.mul_mod, show q * s * (q * s) = q * q * (s * s) by grind, Nat.mul_mod, hs]
    obtain ⟨k, rfl⟩ : ∃ k, p = k + 1 := ⟨p - 1, by omega⟩
    rw [Nat.add_sub_cancel]
    have e3 : (q * q * k + (q * q + u * u)) % (k + 1) = u * u % (k + 1) := by
      rw [show q * q * k + (q * q + u * u) = u * u + q * q * (k + 1) by grind, Nat.add_mul_mod_self_right]
    rw [← Nat.mod_add_mod, Nat.add_mod, h2, Nat.add_zero, Nat.mod_mod, Nat.mod_mod] at e3
    rw [Nat.mod_mul_mod]
    exact e3

theorem root_final {p r u : Nat} (hp : Pr p) (hu : u < p) (hr : r < p) (h : r * r % p = u * u % p) :
    (bif r % 2 == 1 then p - r else r) = u ∨ ((bif r % 2 == 1 then p - r else r) + u) % p = 0 := by
  have h1 := sq_same hp hr hu h
  cases hb : r % 2 == 1 with
  | false => exact h1
  | true =>
    have h2 : r % 2 = 1 := by simpa using hb
    rw [cond_true]
    rcases h1 with h1 | h1
    · right
      rw [show p - r + u = p by omega, Nat.mod_self]
    · left
      by_cases hc : r + u < p
      · rw [Nat.mod_eq_of_lt hc] at h1; omega
      · rw [Nat.mod_eq_sub_mod (by omega), Nat.mod_eq_of_lt (by omega)] at h1; omega
theorem pw_def (u e : Nat) : pw u e = u ^ e % P25 := rfl
theorem pw_mp (u e v : Nat) (he : e < 2 ^ 255) (h : mp P25 255 u e = v) : pw u e = v := by
  rw [← h, mp_eq P25 255 u e he, pw_def]
theorem rt0_pow (v e : Nat) (he : 2 ^ 252 - 2 = e) : rt0 v = v ^ e % P25 := by rw [rt0_def, he, pw_def]
theorem rt1_def (u : Nat) : rt1 u = bif rt0 u * rt0 u % P25 == u then rt0 u else rt0 u * pw 2 (2 ^ 253 - 5) % P25 := by unfold rt1; rfl
theorem rtN_of (u : Nat) (h : rtOk u = true) : rtN u = bif rt1 u % 2 == 1 then P25 - rt1 u else rt1 u := by unfold rtN; rw [h, cond_true]
theorem rtOk_of (u : Nat) (h : rt1 u * rt1 u % P25 = u) : rtOk u = true := by unfold rtOk; rw [h, beq_self_eq_true]
theorem half_p : 2 * 28948022309329048855892746252171976963317496166410141009864396001978282409974 = P25 - 1 := by decide +kernel
theorem quart_p : 4 * (2 ^ 252 - 2) = 28948022309329048855892746252171976963317496166410141009864396001978282409974 + 2 := by decide +kernel
theorem two_mp : mp P25 255 2 (2 * (2 ^ 253 - 5)) = P25 - 1 := by decide +kernel
attribute [local irreducible] pw rt0 rt1 rtN rtOk P25
theorem two_root : pw 2 (2 ^ 253 - 5) * pw 2 (2 ^ 253 - 5) % P25 = P25 - 1 := by
  rw [pw_sq]
  exact pw_mp _ _ _ (by decide) two_mp
theorem square_root (u : Nat) (hu : u < P25) : rtOk (u * u % P25) = true ∧ (rtN (u * u % P25) = u ∨ (rtN (u * u % P25) + u) % P25 = 0) := by
  have h0 := two_root
  have h1 : rt1 (u * u % P25) * rt1 (u * u % P25) % P25 = u * u % P25 := by
    rw [rt1_def]
    generalize pw 2 (2 ^ 253 - 5) = s at *
    have hq := quart_p
    have he := rt0_pow (u * u % P25)
    generalize 2 ^ 252 - 2 = e at *
    exact root_of_sq pr_P hu half_p hq h0 (rt0 (u * u % P25)) (he e rfl)
  have h2 := rtOk_of _ h1
  refine ⟨h2, ?_⟩
  rw [rtN_of _ h2]
  exact root_final pr_P hu (rt1_lt _) h1
end Go.Proofs.Ytddgkoheihlbdaa

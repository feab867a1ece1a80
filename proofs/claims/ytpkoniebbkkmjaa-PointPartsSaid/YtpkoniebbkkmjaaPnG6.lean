/- Primes: Fermat's theorem, and that 2^255 - 19 is a prime (plain). FieldInverts: the walk. A square has a root (plain). FieldLaws: the walk. Points: their cells. Points: 32 bytes as a number and a bit; the field's numbers by name. Points: the curve's number, and the document's root. field: the document's bytes, as a row that is its own. Points: their bytes, and the document's. -/
import Derived.Test.YtpkoniebbkkmjaaPnG5
namespace Go.Proofs.Ytpkoniebbkkmjaa

/-- every number below it, but 0, has no factor with it in common -/
def Pr (p : Nat) : Prop := 1 < p ∧ ∀ k, 0 < k → k < p → Nat.Coprime k p

theorem dvd_of_mod {p a b : Nat} (h : a % p = b % p) : p ∣ b - a := Nat.dvd_of_mod_eq_zero (Nat.sub_mod_eq_zero_of_mod_eq h.symm)
theorem mod_of_dvd {p a b : Nat} (hab : a ≤ b) (h : p ∣ b - a) : a % p = b % p := by
  obtain ⟨k, hk⟩ := h
  have : b = a + p * k := by omega
  rw [this, Nat.add_mul_mod_self_left]
theorem cancel_mod {p a b c : Nat} (hc : Nat.Coprime c p) (h : c * a % p = c * b % p) : a % p = b % p := by
  rcases Nat.le_total a b with hab | hab
  · refine mod_of_dvd hab ((Nat.Coprime.symm hc).dvd_of_dvd_mul_left ?_)
    rw [Nat.mul_sub]
    exact dvd_of_mod h
  · refine (mod_of_dvd hab ((Nat.Coprime.symm hc).dvd_of_dvd_mul_left ?_)).symm
    rw [Nat.mul_sub]
    exact dvd_of_mod h.symm

def prod (l : List Nat) : Nat := l.foldr (· * ·) 1
theorem prod_perm {l l' : List Nat} (h : l.Perm l') : prod l = prod l' := by
  induction h with
  | nil => rfl
  | cons x _ ih => simp only [prod, List.foldr_cons] at ih ⊢; rw [ih]
  | swap x y l => simp only [prod, List.foldr_cons]; exact Nat.mul_left_comm _ _ _
  | trans _ _ ih1 ih2 => exact ih1.trans ih2
theorem prod_coprime {p : Nat} : ∀ l : List Nat, (∀ k, k ∈ l → Nat.Coprime k p) → Nat.Coprime (prod l) p
  | [], _ => by simp [prod]
  | x :: l, h => by
    have := prod_coprime l fun k hk => h k (List.mem_cons_of_mem _ hk)
    simp only [prod, List.foldr_cons] at this ⊢
    exact Nat.Coprime.mul_left (h x List.mem_cons_self) this
theorem prod_map {p a : Nat} : ∀ l : List Nat, prod (l.map fun k => a * k % p) % p = a ^ l.length * prod l % p
  | [] => by simp [prod]
  | x :: l => by
    have ih := prod_map (p := p) (a := a) l
    simp only [prod, List.map_cons, List.foldr_cons, List.length_cons] at ih ⊢
    rw [Nat.mul_mod, ih, Nat.mod_mod, ← Nat.mul_mod, Nat.pow_succ]
    congr 1
    simp only [Nat.mul_assoc, Nat.mul_comm, Nat.mul_left_comm]

/-- Fermat's theorem -/
theorem fermat {p a : Nat} (hp : Pr p) (ha : Nat.Coprime a p) : a ^ (p - 1) % p = 1 := by
  obtain ⟨h1, hc⟩ := hp
  obtain ⟨l, hl⟩ : ∃ l, l = List.range' 1 (p - 1) := ⟨_, rfl⟩
  have hmem : ∀ k, k ∈ l ↔ 0 < k ∧ k < p := fun k => by rw [hl, List.mem_range'_1]; omega
  have hnd : l.Nodup := by rw [hl]; exact List.nodup_range'
  have hlen : l.length = p - 1 := by rw [hl]; simp
  have hnd' : (l.map fun k => a * k % p).Nodup := by
    rw [List.nodup_iff_pairwise_ne] at hnd ⊢
    rw [List.pairwise_map]
    refine List.Pairwise.imp_of_mem ?_ hnd
    intro x y hx hy hne h
    have := cancel_mod ha h
    rw [Nat.mod_eq_of_lt ((hmem x).1 hx).2, Nat.mod_eq_of_lt ((hmem y).1 hy).2] at this
    exact hne this
  have hsub : ∀ y, y ∈ (l.map fun k => a * k % p) → y ∈ l := fun y hy => by
    obtain ⟨k, hk, rfl⟩ := List.mem_map.1 hy
    obtain ⟨k1, k2⟩ := (hmem k).1 hk
    refine (hmem _).2 ⟨Nat.pos_of_ne_zero fun h0 => ?_, Nat.mod_lt _ (by omega)⟩
    have hd : p ∣ a * k := Nat.dvd_of_mod_eq_zero h0
    have : p ∣ k := (Nat.Coprime.symm ha).dvd_of_dvd_mul_left hd
    have := Nat.le_of_dvd k1 this
    omega
  have hperm : (l.map fun k => a * k % p).Perm l := by
    refine (List.perm_ext_iff_of_nodup hnd' hnd).2 fun y => ⟨hsub y, fun hy => ?_⟩
    refine Classical.byContradiction fun hn => ?_
    have hnd2 : (y :: l.map fun k => a * k % p).Nodup := List.nodup_cons.2 ⟨hn, hnd'⟩
    have := hnd2.length_le_of_subset (l₂ := l) fun z hz => by
      rcases List.mem_cons.1 hz with rfl | hz
      · exact hy
      · exact hsub z hz
    simp at this
    omega
  have e := prod_map (p := p) (a := a) l
  rw [prod_perm hperm, hlen] at e
  have hcop := prod_coprime l fun k hk => hc k ((hmem k).1 hk).1 ((hmem k).1 hk).2
  have h2 : prod l * 1 % p = prod l * a ^ (p - 1) % p := by rw [Nat.mul_one, e, Nat.mul_comm]
  have h3 := cancel_mod hcop h2
  rw [← h3, Nat.mod_eq_of_lt h1]

/-- a number's smallest factor is a prime -/
theorem min_factor {n : Nat} (h : 1 < n) : ∃ d, Pr d ∧ d ∣ n ∧ ∀ e, 1 < e → e ∣ n → d ≤ e := by
  have : ∀ m, (∃ e, e ≤ m ∧ 1 < e ∧ e ∣ n) → ∃ d, 1 < d ∧ d ∣ n ∧ ∀ e, 1 < e → e ∣ n → d ≤ e := by
    intro m
    induction m with
    | zero => rintro ⟨e, h1, h2, _⟩; omega
    | succ m ih =>
      rintro ⟨e, h1, h2, h3⟩
      by_cases hex : ∃ e, e ≤ m ∧ 1 < e ∧ e ∣ n
      · exact ih hex
      · refine ⟨e, h2, h3, fun f hf hfn => ?_⟩
        rcases Nat.lt_or_ge f e with h | h
        · exact absurd ⟨f, by omega, hf, hfn⟩ hex
        · exact h
  obtain ⟨d, h1, h2, h3⟩ := this n ⟨n, Nat.le_refl _, h, Nat.dvd_refl _⟩
  refine ⟨d, ⟨h1, fun k hk hkd => ?_⟩, h2, h3⟩
  have g1 : Nat.gcd k d ∣ d := Nat.gcd_dvd_right _ _
  have g2 : Nat.gcd k d ∣ k := Nat.gcd_dvd_left _ _
  have g0 : 0 < Nat.gcd k d := Nat.gcd_pos_of_pos_left _ hk
  rcases Nat.lt_or_ge 1 (Nat.gcd k d) with g | g
  · have := h3 _ g (Nat.dvd_trans g1 h2)
    have := Nat.le_of_dvd hk g2
    omega
  · show Nat.gcd k d = 1
    omega

/-- a number whose smallest factor is not below its root is a prime -/
theorem pr_of_min {n : Nat} (h : 1 < n) (hd : ∀ d, Pr d → d ∣ n → n < d * d) : Pr n := by
  refine ⟨h, fun k hk hkn => ?_⟩
  refine Classical.byContradiction fun hc => ?_
  have g0 : 0 < Nat.gcd k n := Nat.gcd_pos_of_pos_left _ hk
  have g1 : 1 < Nat.gcd k n := by
    rcases Nat.lt_or_ge 1 (Nat.gcd k n) with g | g
    · exact g
    · exact absurd (show Nat.gcd k n = 1 by omega) hc
  obtain ⟨m, hm⟩ := Nat.gcd_dvd_right k n
  have gl := Nat.le_of_dvd hk (Nat.gcd_dvd_left k n)
  have m1 : 1 < m := by
    rcases Nat.lt_or_ge 1 m with g | g
    · exact g
    · have : m = 0 ∨ m = 1 := by omega
      rcases this with rfl | rfl <;> omega
  obtain ⟨d, hp, hdn, hmin⟩ := min_factor h
  have h1 := hmin _ g1 (Nat.gcd_dvd_right k n)
  have h2 := hmin m m1 ⟨Nat.gcd k n, by rw [Nat.mul_comm]; exact hm⟩
  have h3 := hd d hp hdn
  have h4 : d * d ≤ Nat.gcd k n * m := Nat.mul_le_mul h1 h2
  omega

theorem pow_mod_one {p a : Nat} (h : a % p = 1 % p) (k : Nat) : a ^ k % p = 1 % p := by
  rw [Nat.pow_mod, h, ← Nat.pow_mod, Nat.one_pow]
/-- two powers that are 1: so is that to their common factor -/
theorem pow_gcd {p a : Nat} : ∀ m n : Nat, a ^ m % p = 1 % p → a ^ n % p = 1 % p → a ^ (Nat.gcd m n) % p = 1 % p := by
  intro m n
  induction m, n using Nat.gcd.induction with
  | H0 n => intro _ h; rwa [Nat.gcd_zero_left]
  | H1 m n hm ih =>
    intro h1 h2
    rw [Nat.gcd_rec]
    refine ih ?_ h1
    have e : a ^ n = (a ^ m) ^ (n / m) * a ^ (n % m) := by rw [← Nat.pow_mul, ← Nat.pow_add, Nat.div_add_mod]
    rw [e, Nat.mul_mod, pow_mod_one h1] at h2
    rw [← Nat.mul_mod, Nat.one_mul] at h2
    exact h2

/-- Pocklington: a prime factor of n is 1 more than a multiple of q -/
theorem pock {n q m a d : Nat} (hq : Pr q) (hn : 1 < n) (hm : n - 1 = q * m) (h1 : a ^ (n - 1) % n = 1) (h2 : Nat.Coprime (a ^ m % n + (n - 1)) n) (hd : Pr d) (hdn : d ∣ n) : q ∣ d - 1 := by
  have hA : (a ^ m) ^ q % d = 1 % d := by
    rw [← Nat.pow_mul, Nat.mul_comm, ← hm, ← Nat.mod_mod_of_dvd _ hdn, h1]
  have hcop : Nat.Coprime (a ^ m) d := by
    have h0 : a ^ (n - 1) = a ^ m * a ^ (n - 1 - m) := by
      rw [← Nat.pow_add]; congr 1
      have : m ≤ n - 1 := by rw [hm]; exact Nat.le_mul_of_pos_left _ (by have := hq.1; omega)
      omega
    show Nat.gcd (a ^ m) d = 1
    have g1 : Nat.gcd (a ^ m) d ∣ a ^ (n - 1) := Nat.dvd_trans (Nat.gcd_dvd_left _ _) ⟨_, h0⟩
    have g2 : Nat.gcd (a ^ m) d ∣ n := Nat.dvd_trans (Nat.gcd_dvd_right _ _) hdn
    have g3 : Nat.gcd (a ^ m) d ∣ a ^ (n - 1) % n := (Nat.dvd_mod_iff g2).2 g1
    rw [h1] at g3
    exact Nat.dvd_one.1 g3
  have hF := fermat hd hcop
  have hF' : (a ^ m) ^ (d - 1) % d = 1 % d := by rw [hF, Nat.mod_eq_of_lt hd.1]
  have hg := pow_gcd q (d - 1) hA hF'
  refine Classical.byContradiction fun hnd => ?_
  have hgq : Nat.gcd q (d - 1) = 1 := by
    have g1 : Nat.gcd q (d - 1) ∣ q := Nat.gcd_dvd_left _ _
    have g2 : Nat.gcd q (d - 1) ∣ d - 1 := Nat.gcd_dvd_right _ _
    have g0 : 0 < Nat.gcd q (d - 1) := Nat.gcd_pos_of_pos_left _ (by have := hq.1; omega)
    rcases Nat.lt_or_ge (Nat.gcd q (d - 1)) q with g | g
    · have := hq.2 _ g0 g
      have e : Nat.gcd (Nat.gcd q (d - 1)) q = Nat.gcd q (d - 1) := Nat.gcd_eq_left g1
      rw [← e]; exact this
    · have : Nat.gcd q (d - 1) = q := Nat.le_antisymm (Nat.le_of_dvd (by have := hq.1; omega) g1) g
      rw [this] at g2
      exact absurd g2 hnd
  rw [hgq, Nat.pow_one] at hg
  -- d divides a^m - 1 and n
  have hd1 : (a ^ m % n + (n - 1)) % d = 0 := by
    have e1 : a ^ m % n % d = 1 % d := by rw [Nat.mod_mod_of_dvd _ hdn, hg]
    have e2 : (a ^ m % n + (n - 1)) % d = (1 + (n - 1)) % d := by rw [Nat.add_mod, e1, ← Nat.add_mod]
    rw [e2, show 1 + (n - 1) = n by omega]
    exact Nat.mod_eq_zero_of_dvd hdn
  have h5 : d ∣ Nat.gcd (a ^ m % n + (n - 1)) n := Nat.dvd_gcd (Nat.dvd_of_mod_eq_zero hd1) hdn
  rw [show Nat.gcd (a ^ m % n + (n - 1)) n = 1 from h2] at h5
  have := Nat.dvd_one.1 h5
  have := hd.1
  omega

/-- a power's rest, by squaring -/
def mp (n : Nat) : Nat → Nat → Nat → Nat
  | 0, _, _ => 1 % n
  | f + 1, a, e => if e = 0 then 1 % n else if e % 2 = 1 then a * mp n f (a * a % n) (e / 2) % n else mp n f (a * a % n) (e / 2)
theorem mp_eq (n : Nat) : ∀ f a e, e < 2 ^ f → mp n f a e = a ^ e % n
  | 0, a, e, h => by
    have : e = 0 := by simpa using h
    subst this
    simp [mp]
  | f + 1, a, e, h => by
    rw [Nat.pow_succ] at h
    have ih := mp_eq n f (a * a % n) (e / 2) (by omega)
    have e2 : (a * a % n) ^ (e / 2) % n = a ^ (2 * (e / 2)) % n := by
      rw [← Nat.pow_mod, Nat.pow_mul, Nat.pow_two]
    unfold mp
    by_cases h0 : e = 0
    · rw [if_pos h0, h0, Nat.pow_zero]
    · rw [if_neg h0]
      by_cases h1 : e % 2 = 1
      · rw [if_pos h1, ih, e2, Nat.mul_mod, Nat.mod_mod, ← Nat.mul_mod]
        congr 1
        rw [Nat.mul_comm, ← Nat.pow_succ]
        congr 1; omega
      · rw [if_neg h1, ih, e2]
        congr 2; omega

theorem pock_mp {n q m a d : Nat} (f : Nat) (hf : n < 2 ^ f) (hq : Pr q) (hn : 1 < n) (hm : n - 1 = q * m) (h1 : mp n f a (n - 1) = 1) (h2 : Nat.gcd (mp n f a m + (n - 1)) n = 1) (hd : Pr d) (hdn : d ∣ n) : q ∣ d - 1 := by
  have hmn : m ≤ n - 1 := by rw [hm]; exact Nat.le_mul_of_pos_left _ (by have := hq.1; omega)
  rw [mp_eq n f a (n - 1) (by omega)] at h1
  rw [mp_eq n f a m (by omega)] at h2
  exact pock hq hn hm h1 h2 hd hdn

theorem pr_small (n k : Nat) (h : 1 < n) (ht : ((List.range k).all fun d => decide (d ≤ 1) || n % d != 0) = true) (hk : n < k * k) : Pr n := by
  refine pr_of_min h fun d hd hdn => ?_
  rcases Nat.lt_or_ge d k with hlt | hge
  · have := List.all_eq_true.1 ht d (List.mem_range.2 hlt)
    have h0 := Nat.mod_eq_zero_of_dvd hdn
    have h1 := hd.1
    simp [h0] at this
    omega
  · exact Nat.lt_of_lt_of_le hk (Nat.mul_le_mul hge hge)

theorem pr_two {n q1 q2 : Nat} (h : 1 < n) (hc : Nat.gcd q1 q2 = 1) (hq : n < q1 * q2 * (q1 * q2)) (h1 : ∀ d, Pr d → d ∣ n → q1 ∣ d - 1) (h2 : ∀ d, Pr d → d ∣ n → q2 ∣ d - 1) : Pr n := by
  refine pr_of_min h fun d hd hdn => ?_
  have h3 : q1 * q2 ∣ d - 1 := Nat.Coprime.mul_dvd_of_dvd_of_dvd hc (h1 d hd hdn) (h2 d hd hdn)
  have h4 := Nat.le_of_dvd (by have := hd.1; omega) h3
  have h5 : q1 * q2 ≤ d := by omega
  exact Nat.lt_of_lt_of_le hq (Nat.mul_le_mul h5 h5)

theorem pr_u : Pr 8574133 := pr_small 8574133 2929 (by decide) (by decide +kernel) (by decide)
theorem pr_127 : Pr 127 := pr_small 127 12 (by decide) (by decide +kernel) (by decide)
theorem pr_75707 : Pr 75707 := pr_small 75707 276 (by decide) (by decide +kernel) (by decide)
theorem pr_1923133 : Pr 1923133 := pr_small 1923133 1387 (by decide) (by decide +kernel) (by decide)
theorem pr_t : Pr 1919519569386763 :=
  pr_two (q1 := 8574133) (q2 := 127) (by decide) (by decide +kernel) (by decide +kernel)
    (fun d hd hdn => pock_mp (m := 223873314) (a := 2) 256 (by decide +kernel) pr_u (by decide) (by decide +kernel) (by decide +kernel) (by decide +kernel) hd hdn)
    (fun d hd hdn => pock_mp (m := 15114327318006) (a := 2) 256 (by decide +kernel) pr_127 (by decide) (by decide +kernel) (by decide +kernel) (by decide +kernel) hd hdn)
theorem pr_r : Pr 75445702479781427272750846543864801 :=
  pr_two (q1 := 1919519569386763) (q2 := 75707) (by decide) (by decide +kernel) (by decide +kernel)
    (fun d hd hdn => pock_mp (m := 39304471641247389600) (a := 2) 256 (by decide +kernel) pr_t (by decide) (by decide +kernel) (by decide +kernel) (by decide +kernel) hd hdn)
    (fun d hd hdn => pock_mp (m := 996548568557483816196003626400) (a := 2) 256 (by decide +kernel) pr_75707 (by decide) (by decide +kernel) (by decide +kernel) (by decide +kernel) hd hdn)
theorem pr_q : Pr 74058212732561358302231226437062788676166966415465897661863160754340907 :=
  pr_two (q1 := 75445702479781427272750846543864801) (q2 := 1923133) (by decide) (by decide +kernel) (by decide +kernel)
    (fun d hd hdn => pock_mp (m := 981609426360740691344999861639072106) (a := 2) 256 (by decide +kernel) pr_r (by decide) (by decide +kernel) (by decide +kernel) (by decide +kernel) hd hdn)
    (fun d hd hdn => pock_mp (m := 38509147694185143878364744631319200843710219946028640589009268082) (a := 2) 256 (by decide +kernel) pr_1923133 (by decide) (by decide +kernel) (by decide +kernel) (by decide +kernel) hd hdn)
/-- 2^255 - 19 is a prime -/
theorem pr_p : Pr 57896044618658097711785492504343953926634992332820282019728792003956564819949 := by
  refine pr_of_min (by decide) fun d hd hdn => ?_
  have h3 : 74058212732561358302231226437062788676166966415465897661863160754340907 ∣ d - 1 := pock_mp (m := 781764) (a := 2) 256 (by decide +kernel) pr_q (by decide) (by decide +kernel) (by decide +kernel) (by decide +kernel) hd hdn
  have h4 := Nat.le_of_dvd (by have := hd.1; omega) h3
  have h5 : 74058212732561358302231226437062788676166966415465897661863160754340907 ≤ d := by omega
  exact Nat.lt_of_lt_of_le (by decide +kernel) (Nat.mul_le_mul h5 h5)
end Go.Proofs.Ytpkoniebbkkmjaa
namespace Go.Proofs.Ytpkoniebbkkmjaa
open Go.RowKit

theorem two_el (l : List UInt8) (h : decide (leNat l < P25) = true) : El (twoX l) (leNat l % P25) := by
  unfold El twoX
  rw [h]
  have h' : leNat l < P25 := by simpa using h
  have h2 := of_lt (leNat l)
  refine ⟨lt_mono h2 (by omega), Nat.mod_lt _ (by unfold P25; omega), ?_⟩
  simp only [cond_true]
  rw [of_val, Nat.mod_eq_of_lt (show leNat l < 57896044618658097711785492504343953926634992332820282019728792003956564819968 by unfold P25 at h'; omega)]

theorem odd_el {x : L5} {u : Nat} (hx : El x u) (w : World) : Calls Try.prog 42 #[.agg (gArr x.at)] w fun e w' => e = .returned (.bool (u % 2 == 1)) ∧ Below w.heap.size w w' := by
  have := odd_any x w (lt_mono hx.1 (by omega))
  rwa [hx.2.2] at this

theorem pr_P : Pr P25 := by
  have h := pr_p
  unfold P25
  exact h
theorem inv_gen (p u e : Nat) (hp : Pr p) (hu : u < p) (he : e + 1 = p - 1) : (u * (u ^ e % p) % p == 1) = !(u == 0) := by
  by_cases h : u = 0
  · subst h
    simp
  · have h1 := fermat hp (hp.2 u (by omega) hu)
    rw [Nat.mul_comm, Nat.mod_mul_mod, ← Nat.pow_succ, Nat.succ_eq_add_one, he, h1]
    simp [h]
theorem inv_law (u : Nat) (hu : u < P25) : (u * pw u (P25 - 2) % P25 == 1) = !(u == 0) := by
  have hp : 2 < P25 := by unfold P25; omega
  unfold pw
  exact inv_gen P25 u (P25 - 2) pr_P hu (by omega)
theorem rt1_lt (u : Nat) : rt1 u < P25 := by
  unfold rt1
  cases rt0 u * rt0 u % P25 == u with
  | true => rw [cond_true, rt0_def]; exact pw_lt _ _
  | false => rw [cond_false]; exact Nat.mod_lt _ p_pos
theorem sq_neg (p r : Nat) (h : r ≤ p) : (p - r) * (p - r) % p = r * r % p := by
  obtain ⟨s, rfl⟩ : ∃ s, p = r + s := ⟨p - r, by omega⟩
  rw [Nat.add_sub_cancel_left]
  have e : s * s + r * (r + s) = r * r + s * (r + s) := by
    rw [Nat.mul_add, Nat.mul_add, Nat.mul_comm s r]
    omega
  have := congrArg (· % (r + s)) e
  simpa [Nat.add_mod] using this
theorem root_gen (p r u : Nat) (ok : Bool) (hp : p % 2 = 1) (hl : r < p) (h : ok = true → r * r % p = u) :
    ((bif ok then (bif r % 2 == 1 then p - r else r) else 0) % 2 == 1) = false ∧ (ok = true → (bif ok then (bif r % 2 == 1 then p - r else r) else 0) * (bif ok then (bif r % 2 == 1 then p - r else r) else 0) % p = u) := by
  cases ok with
  | false => exact ⟨rfl, fun h => by cases h⟩
  | true =>
    rw [cond_true]
    have h1 := h rfl
    by_cases ho : r % 2 = 1
    · rw [ho]
      simp only [beq_self_eq_true, cond_true]
      exact ⟨by simp; omega, fun _ => by rw [sq_neg _ _ (Nat.le_of_lt hl)]; exact h1⟩
    · have : r % 2 = 0 := by omega
      rw [this]
      exact ⟨by simp [this], fun _ => h1⟩
attribute [local irreducible] pw rt0 rt1
theorem rtOk_sq (u : Nat) (h : rtOk u = true) : rt1 u * rt1 u % P25 = u := by
  unfold rtOk at h
  exact eq_of_beq h
theorem P25_odd : P25 % 2 = 1 := by unfold P25; omega
theorem inverts_math (u : Nat) (hu : u < P25) : (u * pw u (P25 - 2) % P25 == 1) = !(u == 0) ∧ (rtN u % 2 == 1) = false ∧ (rtOk u = true → rtN u * rtN u % P25 = u) := by
  have h1 := rtOk_sq u
  have hl := rt1_lt u
  refine ⟨inv_law u hu, ?_⟩
  unfold rtN
  exact root_gen P25 (rt1 u) u (rtOk u) P25_odd hl h1

end Go.Proofs.Ytpkoniebbkkmjaa
namespace Go.Proofs.Ytpkoniebbkkmjaa
open Go.RowKit

theorem pr_dvd {p a b : Nat} (hp : Pr p) (h : p ∣ a * b) : p ∣ a ∨ p ∣ b := by
  by_cases ha : p ∣ a
  · exact .inl ha
  · have h0 : a % p ≠ 0 := fun h => ha (Nat.dvd_of_mod_eq_zero h)
    have hlt := Nat.mod_lt a (show 0 < p by have := hp.1; omega)
    have hc := hp.2 (a % p) (by omega) hlt
    have hc2 : Nat.Coprime p a := by
      unfold Nat.Coprime at hc ⊢
      rw [Nat.gcd_rec]
      exact hc
    exact .inr (hc2.dvd_of_dvd_mul_left h)

/-- two numbers of one square: the same or the opposite -/
theorem sq_same {p r u : Nat} (hp : Pr p) (hr : r < p) (hu : u < p) (h : r * r % p = u * u % p) : r = u ∨ (r + u) % p = 0 := by
  rcases Nat.le_total r u with hle | hle
  · obtain ⟨d, rfl⟩ : ∃ d, u = r + d := ⟨u - r, by omega⟩
    have h1 : p ∣ (r + d) * (r + d) - r * r := dvd_of_mod h
    have e : (r + d) * (r + d) - r * r = d * (r + (r + d)) := by
      have : (r + d) * (r + d) = r * r + d * (r + (r + d)) := by grind
      omega
    rw [e] at h1
    rcases pr_dvd hp h1 with h2 | h2
    · have : d = 0 := Nat.eq_zero_of_dvd_of_lt h2 (by omega)
      exact .inl (by omega)
    · exact .inr (Nat.mod_eq_zero_of_dvd h2)
  · obtain ⟨d, rfl⟩ : ∃ d, r = u + d := ⟨r - u, by omega⟩
    have h1 : p ∣ (u + d) * (u + d) - u * u := dvd_of_mod h.symm
    have e : (u + d) * (u + d) - u * u = d * (u + d + u) := by
      have : (u + d) * (u + d) = u * u + d * (u + d + u) := by grind
      omega
    rw [e] at h1
    rcases pr_dvd hp h1 with h2 | h2
    · have : d = 0 := Nat.eq_zero_of_dvd_of_lt h2 (by omega)
      exact .inl (by omega)
    · exact .inr (Nat.mod_eq_zero_of_dvd h2)

/-- Euler: a power to the half of p - 1 is 1 or -1 -/
theorem euler {p u h : Nat} (hp : Pr p) (hu : 0 < u) (hul : u < p) (hh : 2 * h = p - 1) : u ^ h % p = 1 ∨ u ^ h % p = p - 1 := by
  have h1 := fermat hp (hp.2 u hu hul)
  have hp1 := hp.1
  have e : u ^ h % p * (u ^ h % p) % p = 1 * 1 % p := by
    rw [← Nat.mul_mod, ← Nat.pow_add, show h + h = p - 1 by omega, h1, Nat.one_mul, Nat.mod_eq_of_lt hp1]
  have hlt := Nat.mod_lt (u ^ h) (show 0 < p by omega)
  rcases sq_same hp hlt hp1 e with h2 | h2
  · exact .inl h2
  · refine .inr ?_
    by_cases hz : u ^ h % p + 1 < p
    · rw [Nat.mod_eq_of_lt hz] at h2; omega
    · omega

/-- the first try's square -/
theorem try_sq {p u e h : Nat} (hp : Pr p) (hu : u < p) (hh : 2 * h = p - 1) (he : 4 * e = h + 2) :
    (u * u % p) ^ e % p * ((u * u % p) ^ e % p) % p = u * u % p ∨ ((u * u % p) ^ e % p * ((u * u % p) ^ e % p) + u * u) % p = 0 := by
  have hp1 := hp.1
  have e1 : (u * u % p) ^ e % p * ((u * u % p) ^ e % p) % p = u * u * u ^ h % p := by
    rw [← Nat.mul_mod, ← Nat.pow_add, ← Nat.pow_mod, ← Nat.pow_two, ← Nat.pow_mul, ← Nat.pow_add, show 2 * (e + e) = 2 + h by omega]
  rcases Nat.eq_zero_or_pos u with h0 | h0
  · subst h0
    left
    rw [e1]
    simp
  · rcases euler hp h0 hu hh with e2 | e2
    · left
      rw [e1, Nat.mul_mod, e2, Nat.mul_one, Nat.mod_mod]
    · right
      rw [← Nat.mod_add_mod, e1, Nat.mul_mod, e2]
      obtain ⟨k, rfl⟩ : ∃ k, p = k + 1 := ⟨p - 1, by omega⟩
      rw [Nat.add_sub_cancel, Nat.mod_mul_mod, Nat.mod_add_mod, ← Nat.mul_succ, Nat.succ_eq_add_one, Nat.mul_mod_left]

/-- the square's root, generally: s a root of -1 -/
theorem root_of_sq {p u e h s : Nat} (hp : Pr p) (hu : u < p) (hh : 2 * h = p - 1) (he : 4 * e = h + 2) (hs : s * s % p = p - 1) (q : Nat) (hq : q = (u * u % p) ^ e % p) :
    (bif q * q % p == u * u % p then q else q * s % p) * (bif q * q % p == u * u % p then q else q * s % p) % p = u * u % p := by
  by_cases hc : q * q % p = u * u % p
  · rw [show (q * q % p == u * u % p) = true by simp [hc], cond_true]
    exact hc
  · rw [show (q * q % p == u * u % p) = false by simp [hc], cond_false]
    have h2 : (q * q + u * u) % p = 0 := by
      rcases try_sq hp hu hh he with h | h
      · rw [← hq] at h; exact absurd h hc
      · rw [← hq] at h; exact h
    have hp1 := hp.1
    rw [← Nat.mul_mod, show q * s * (q * s) = q * q * (s * s) by grind, Nat.mul_mod, hs]
    obtain ⟨k, rfl⟩ : ∃ k, p = k + 1 := ⟨p - 1, by omega⟩
    rw [Nat.add_sub_cancel]
    have e3 : (q * q * k + (q * q + u * u)) % (k + 1) = u * u % (k + 1) := by
      rw [show q * q * k + (q * q + u * u) = u * u + q * q * (k + 1) by grind, Nat.add_mul_mod_self_right]
    rw [← Nat.mod_add_mod, Nat.add_mod, h2, Nat.add_zero, Nat.mod_mod, Nat.mod_mod] at e3
    rw [Nat.mod_mul_mod]
    exact e3

theorem root_final {p r u : Nat} (hp : Pr p) (hu : u < p) (hr : r < p) (h : r * r % p = u * u % p) :
    (bif r % 2 == 1 then p - r else r) = u ∨ ((bif r % 2 == 1 then p - r else r) + u) % p = 0 := by
  have h1 := sq_same hp hr hu h
  cases hb : r % 2 == 1 with
  | false => exact h1
  | true =>
    have h2 : r % 2 = 1 := by simpa using hb
    rw [cond_true]
    rcases h1 with h1 | h1
    · right
      rw [show p - r + u = p by omega, Nat.mod_self]
    · left
      by_cases hc : r + u < p
      · rw [Nat.mod_eq_of_lt hc] at h1; omega
      · rw [Nat.mod_eq_sub_mod (by omega), Nat.mod_eq_of_lt (by omega)] at h1; omega
theorem pw_def (u e : Nat) : pw u e = u ^ e % P25 := rfl
theorem pw_mp (u e v : Nat) (he : e < 2 ^ 255) (h : mp P25 255 u e = v) : pw u e = v := by
  rw [← h, mp_eq P25 255 u e he, pw_def]
theorem rt0_pow (v e : Nat) (he : 2 ^ 252 - 2 = e) : rt0 v = v ^ e % P25 := by rw [rt0_def, he, pw_def]
theorem rt1_def (u : Nat) : rt1 u = bif rt0 u * rt0 u % P25 == u then rt0 u else rt0 u * pw 2 (2 ^ 253 - 5) % P25 := by unfold rt1; rfl
theorem rtN_of (u : Nat) (h : rtOk u = true) : rtN u = bif rt1 u % 2 == 1 then P25 - rt1 u else rt1 u := by unfold rtN; rw [h, cond_true]
theorem rtOk_of (u : Nat) (h : rt1 u * rt1 u % P25 = u) : rtOk u = true := by unfold rtOk; rw [h, beq_self_eq_true]
theorem half_p : 2 * 28948022309329048855892746252171976963317496166410141009864396001978282409974 = P25 - 1 := by decide +kernel
theorem quart_p : 4 * (2 ^ 252 - 2) = 28948022309329048855892746252171976963317496166410141009864396001978282409974 + 2 := by decide +kernel
theorem two_mp : mp P25 255 2 (2 * (2 ^ 253 - 5)) = P25 - 1 := by decide +kernel
attribute [local irreducible] pw rt0 rt1 rtN rtOk P25
theorem two_root : pw 2 (2 ^ 253 - 5) * pw 2 (2 ^ 253 - 5) % P25 = P25 - 1 := by
  rw [pw_sq]
  exact pw_mp _ _ _ (by decide) two_mp
theorem square_root (u : Nat) (hu : u < P25) : rtOk (u * u % P25) = true ∧ (rtN (u * u % P25) = u ∨ (rtN (u * u % P25) + u) % P25 = 0) := by
  have h0 := two_root
  have h1 : rt1 (u * u % P25) * rt1 (u * u % P25) % P25 = u * u % P25 := by
    rw [rt1_def]
    generalize pw 2 (2 ^ 253 - 5) = s at *
    have hq := quart_p
    have he := rt0_pow (u * u % P25)
    generalize 2 ^ 252 - 2 = e at *
    exact root_of_sq pr_P hu half_p hq h0 (rt0 (u * u % P25)) (he e rfl)
  have h2 := rtOk_of _ h1
  refine ⟨h2, ?_⟩
  rw [rtN_of _ h2]
  exact root_final pr_P hu (rt1_lt _) h1
end Go.Proofs.Ytpkoniebbkkmjaa
namespace Go.Proofs.Ytpkoniebbkkmjaa
open Go.RowKit

theorem add_el {x y : L5} {u v : Nat} (hx : El x u) (hy : El y v) (w : World) : Calls Try.prog 33 #[.agg (gArr x.at), .agg (gArr y.at)] w fun e w' => e = .returned (.agg (gArr (x.add y).at)) ∧ Below w.heap.size w w' := add_g x y (lt_mono hx.1 (by omega)) (lt_mono hy.1 (by omega)) w
theorem sub_el {x y : L5} {u v : Nat} (hx : El x u) (hy : El y v) (w : World) : Calls Try.prog 31 #[.agg (gArr x.at), .agg (gArr y.at)] w fun e w' => e = .returned (.agg (gArr (x.sub y).at)) ∧ Below w.heap.size w w' := sub_g x y (lt_mono hx.1 (by omega)) (lt_mono hy.1 (by omega)) w
theorem same_eq {x y : L5} {u v : Nat} (hx : El x u) (hy : El y v) (h : u = v) (w : World) : Calls Try.prog 36 #[.agg (gArr x.at), .agg (gArr y.at)] w fun e w' => e = .returned (.bool true) ∧ Below w.heap.size w w' := by
  have := same_el hx hy w
  rw [h, beq_self_eq_true] at this
  exact this
theorem law_a (p u v t : Nat) : ((u + v) % p + t) % p = (u + (v + t) % p) % p := by rw [Nat.mod_add_mod, Nat.add_mod_mod, Nat.add_assoc]
theorem law_m (p u v t : Nat) : u * v % p * t % p = u * (v * t % p) % p := by rw [Nat.mod_mul_mod, Nat.mul_mod_mod, Nat.mul_assoc]
theorem law_d (p u v t : Nat) : u * ((v + t) % p) % p = (u * v % p + u * t % p) % p := by rw [Nat.mul_mod_mod, ← Nat.add_mod, Nat.mul_add]
theorem law_s (p u v : Nat) (hu : u < p) (hv : v < p) : ((u + (p - v)) % p + v) % p = u := by
  rw [Nat.mod_add_mod, show u + (p - v) + v = u + p by omega, Nat.add_mod_right, Nat.mod_eq_of_lt hu]

end Go.Proofs.Ytpkoniebbkkmjaa
namespace Go.Proofs.Ytpkoniebbkkmjaa
open Go.RowKit

def pArr (x y z t : L5) : Array Value := gArr x.at ++ gArr y.at ++ gArr z.at ++ gArr t.at
def qArr (u v n : Nat) : Array Value := fArr (dig u) ++ fArr (dig v) ++ fArr (dig n)
theorem pArr_size (x y z t : L5) : (pArr x y z t).size = 20 := by simp [pArr, gArr_size]
theorem qArr_size (u v n : Nat) : (qArr u v n).size = 48 := by simp [qArr, fArr_size]
theorem all_append {p : Value → Bool} {a b : Array Value} (ha : a.all p = true) (hb : b.all p = true) : (a ++ b).all p = true := by simp [ha, hb]
theorem pArr_one (x y z t : L5) : (pArr x y z t).all (·.oneCell') = true := all_append (all_append (all_append (gArr_one _) (gArr_one _)) (gArr_one _)) (gArr_one _)
theorem qArr_one (u v n : Nat) : (qArr u v n).all (·.oneCell') = true := all_append (all_append (fArr_one _) (fArr_one _)) (fArr_one _)
theorem fArr_lit (f : Nat → Nat) : fArr f = #[.int .u64 (f 0), .int .u64 (f 1), .int .u64 (f 2), .int .u64 (f 3), .int .u64 (f 4), .int .u64 (f 5), .int .u64 (f 6), .int .u64 (f 7), .int .u64 (f 8), .int .u64 (f 9), .int .u64 (f 10), .int .u64 (f 11), .int .u64 (f 12), .int .u64 (f 13), .int .u64 (f 14), .int .u64 (f 15)] := rfl

set_option maxRecDepth 100000 in
theorem build_pt (x y z t : L5) (w : World) : (Instr.build 29 #[(0, .agg (gArr x.at)), (1, .agg (gArr y.at)), (2, .agg (gArr z.at)), (3, .agg (gArr t.at))]).run Try.prog w = .ok (.agg (pArr x y z t)) w := by
  unfold pArr
  simp only [gArr_at]
  simp [go_sem]
set_option maxRecDepth 100000 in
theorem build_pt2 (y z : L5) (w : World) : (Instr.build 29 #[(1, .agg (gArr y.at)), (2, .agg (gArr z.at))]).run Try.prog w = .ok (.agg (pArr L5.zero y z L5.zero)) w := by
  unfold pArr
  simp only [gArr_at]
  simp [go_sem, L5.zero]
set_option maxRecDepth 100000 in
theorem build_pt0 (w : World) : (Instr.build 29 #[]).run Try.prog w = .ok (.agg (pArr L5.zero L5.zero L5.zero L5.zero)) w := by
  unfold pArr
  simp only [gArr_at]
  simp [go_sem, L5.zero]
set_option maxRecDepth 100000 in
theorem build_p (u v n : Nat) (w : World) : (Instr.build 36 #[(0, .agg (fArr (dig u))), (1, .agg (fArr (dig v))), (2, .agg (fArr (dig n)))]).run Try.prog w = .ok (.agg (qArr u v n)) w := by
  unfold qArr
  simp only [fArr_lit]
  simp [go_sem]
theorem dig_zero (j : Nat) : dig 0 j = 0 := by simp [dig]
set_option maxRecDepth 100000 in
theorem build_p0 (w : World) : (Instr.build 36 #[]).run Try.prog w = .ok (.agg (qArr 0 0 0)) w := by
  unfold qArr
  simp only [fArr_lit, dig_zero]
  simp [go_sem]

/-- some cells in the midst of a block -/
theorem Box.part {w : World} {g k : Nat} {T : TypeId} {a b c : Array Value} (h : Box w g T (a ++ b ++ c)) (hk : a.size = k) : w.rangeAt g k b.toList := fun j v hv => by
  refine h.cell (k + j) ?_
  have hj : j < b.size := by
    rcases Nat.lt_or_ge j b.size with h | h
    · exact h
    · simp at hv; simp [Array.getElem?_eq_none h] at hv
  simp at hv
  rw [Array.getElem?_append_left (by simp; omega), Array.getElem?_append_right (by omega), show k + j - a.size = j by omega]
  exact hv
theorem pt_x {w : World} {g : Nat} {T : TypeId} {x y z t : L5} (h : Box w g T (pArr x y z t)) : w.rangeAt g 0 (gArr x.at).toList := by
  refine Box.part (a := #[]) (c := gArr y.at ++ gArr z.at ++ gArr t.at) (T := T) ?_ rfl
  simpa [pArr] using h
theorem pt_y {w : World} {g : Nat} {T : TypeId} {x y z t : L5} (h : Box w g T (pArr x y z t)) : w.rangeAt g 5 (gArr y.at).toList := by
  refine Box.part (a := gArr x.at) (c := gArr z.at ++ gArr t.at) (T := T) ?_ (gArr_size _)
  simpa [pArr] using h
theorem pt_z {w : World} {g : Nat} {T : TypeId} {x y z t : L5} (h : Box w g T (pArr x y z t)) : w.rangeAt g 10 (gArr z.at).toList := by
  refine Box.part (a := gArr x.at ++ gArr y.at) (c := gArr t.at) (T := T) ?_ (by simp [gArr_size])
  simpa [pArr] using h
theorem pt_t {w : World} {g : Nat} {T : TypeId} {x y z t : L5} (h : Box w g T (pArr x y z t)) : w.rangeAt g 15 (gArr t.at).toList := by
  refine Box.part (a := gArr x.at ++ gArr y.at ++ gArr z.at) (c := #[]) (T := T) ?_ (by simp [gArr_size])
  simpa [pArr] using h
theorem q_x {w : World} {g : Nat} {T : TypeId} {u v n : Nat} (h : Box w g T (qArr u v n)) : w.rangeAt g 0 (fArr (dig u)).toList := by
  refine Box.part (a := #[]) (c := fArr (dig v) ++ fArr (dig n)) (T := T) ?_ rfl
  simpa [qArr] using h
theorem q_y {w : World} {g : Nat} {T : TypeId} {u v n : Nat} (h : Box w g T (qArr u v n)) : w.rangeAt g 16 (fArr (dig v)).toList := by
  refine Box.part (a := fArr (dig u)) (c := fArr (dig n)) (T := T) ?_ (fArr_size _)
  simpa [qArr] using h
theorem q_z {w : World} {g : Nat} {T : TypeId} {u v n : Nat} (h : Box w g T (qArr u v n)) : w.rangeAt g 32 (fArr (dig n)).toList := by
  refine Box.part (a := fArr (dig u) ++ fArr (dig v)) (c := #[]) (T := T) ?_ (by simp [fArr_size])
  simpa [qArr] using h

theorem run_load_mid {P : Program} {o : Oper} {a : Act} {w : World} {ty : TypeId} {x : Operand} (ho : o.op = .load ty x) {b k : Nat} {cs : Array Value} (hS : w.rangeAt b k cs.toList) (hx : a.eval x = .pointer (some ⟨b, k, none⟩)) {d : TypeDesc}
    (hu : P.underlying ty = some d) (hd : d.isRow = true) (hi : (P.info? ty).map (·.size) = some cs.size) : (execOp a.eval o).run P w = .ok (.value (.agg cs)) w := by
  unfold execOp
  simp only [ho, hx, Instr.loadAt, Instr.sureAddr, Sem.run_bind, Sem.run_pure, Result.andThen_ok, run_loadVar_mid w b k ty cs.toList d hS hu hd (by simpa using hi)]
end Go.Proofs.Ytpkoniebbkkmjaa
namespace Go.Proofs.Ytpkoniebbkkmjaa
open Go.RowKit

def bts (n : Nat) : Array Value := (lCells (leBytes n 32)).toArray
theorem bts_size (n : Nat) : (bts n).size = 32 := by simp [bts, lCells, leBytes]
theorem bts_one (n : Nat) : (bts n).all (·.oneCell') = true := all_oneCell_toArray (fun v hv => by simp [lCells] at hv; obtain ⟨j, _, rfl⟩ := hv; rfl)
theorem bts_get (n j : Nat) (h : j < 32) : (bts n)[j]? = some (.int .u8 (n / 256 ^ j % 256 : Nat)) := by
  simp [bts, lCells, leBytes, h]
theorem bArr_bts (v : Nat) (hv : v < 2 ^ 255) : bArr v 255 = bts v := by
  apply Array.ext
  · rw [bArr_size, bts_size]
  · intro j h1 h2
    rw [bArr_size] at h1
    have e1 := bArr_get v 255 j h1
    have e2 := bts_get v j h1
    rw [byteAt_end v j hv] at e1
    rw [Array.getElem?_eq_getElem (by rw [bArr_size]; exact h1)] at e1
    rw [Array.getElem?_eq_getElem (by rw [bts_size]; exact h1)] at e2
    have e3 := e1.trans e2.symm
    exact Option.some.inj e3

theorem low_same (r q j : Nat) (hj : j < 31) : (r + 2 ^ 255 * q) / 256 ^ j % 256 = r / 256 ^ j % 256 := by
  have e : 2 ^ 255 * q = 256 ^ j * (256 * (2 ^ (247 - 8 * j) * q)) := by
    rw [show (256 : Nat) ^ j = 2 ^ (8 * j) by rw [show (256 : Nat) = 2 ^ 8 from rfl, ← Nat.pow_mul], ← Nat.mul_assoc, ← Nat.mul_assoc]
    congr 1
    rw [show (256 : Nat) = 2 ^ 8 from rfl, ← Nat.pow_add, ← Nat.pow_add]
    congr 1
    omega
  rw [e, Nat.add_mul_div_left _ _ (Nat.pow_pos (by omega)), Nat.add_mul_mod_self_left]
theorem top_byte (r q : Nat) (hr : r < 2 ^ 255) (hq : q < 2) : (r + 2 ^ 255 * q) / 256 ^ 31 % 256 = r / 256 ^ 31 + 128 * q := by
  simp only [Nat.reducePow] at *
  omega
theorem top_low (r : Nat) (hr : r < 2 ^ 255) : r / 256 ^ 31 < 128 := by
  simp only [Nat.reducePow] at *
  omega
/-- the last byte is written anew -/
theorem bts_set (r q p : Nat) (hr : r < 2 ^ 255) (hp : p < 2) : (bts (r + 2 ^ 255 * q)).setIfInBounds 31 (.int .u8 (r / 256 ^ 31 + 128 * p : Nat)) = bts (r + 2 ^ 255 * p) := by
  apply Array.ext
  · simp [bts_size]
  · intro j h1 h2
    rw [bts_size] at h2
    have e2 := bts_get (r + 2 ^ 255 * p) j h2
    rw [Array.getElem?_eq_getElem (by rw [bts_size]; exact h2)] at e2
    rw [Option.some.inj e2, Array.getElem_setIfInBounds]
    by_cases hj : 31 = j
    · subst hj
      rw [if_pos rfl, top_byte r p hr hp]
    · rw [if_neg hj]
      have e1 := bts_get (r + 2 ^ 255 * q) j h2
      rw [Array.getElem?_eq_getElem (by rw [bts_size]; exact h2)] at e1
      rw [Option.some.inj e1, low_same r q j (by omega), low_same r p j (by omega)]
    case h₂ => rw [bts_size]; exact h2

theorem bts_sl {w : World} {g n : Nat} (h : Box w g 39 (bts n)) : Sl w (some ⟨g, 0, none⟩) 32 32 (leBytes n 32) := cells_sl h (leBytes_len n 32)
theorem leNat_bytes : ∀ (k n : Nat), n < 256 ^ k → leNat (leBytes n k) = n
  | 0, n, h => by simp at h; subst h; simp [leBytes, leNat]
  | k + 1, n, h => by
    have h1 := leNat_bytes k (n / 256) (by rw [Nat.pow_succ] at h; omega)
    have e : leBytes n (k + 1) = UInt8.ofNat (n % 256) :: leBytes (n / 256) k := by
      simp only [leBytes, List.range_succ_eq_map, List.map_cons, List.map_map, Nat.pow_zero, Nat.div_one]
      congr 1
      apply List.map_congr_left
      intro j _
      simp [Nat.pow_succ', Nat.div_div_eq_div_mul]
    rw [e]
    simp only [leNat]
    rw [h1]
    simp
    omega
theorem bytes_of (l : List UInt8) : l = leBytes (leNat l) l.length := by
  induction l with
  | nil => simp [leBytes]
  | cons c l ih =>
    have e : leBytes (leNat (c :: l)) (l.length + 1) = UInt8.ofNat (leNat (c :: l) % 256) :: leBytes (leNat (c :: l) / 256) l.length := by
      simp only [leBytes, List.range_succ_eq_map, List.map_cons, List.map_map, Nat.pow_zero, Nat.div_one]
      congr 1
      apply List.map_congr_left
      intro j _
      simp [Nat.pow_succ', Nat.div_div_eq_div_mul]
    have h2 := c.toNat_lt
    rw [List.length_cons, e]
    simp only [leNat]
    rw [show (c.toNat + 256 * leNat l) % 256 = c.toNat by omega, show (c.toNat + 256 * leNat l) / 256 = leNat l by omega, ← ih]
    simp

/-! the field's numbers -/
def fa (u v : Nat) : Nat := (u + v) % P25
def fs (u v : Nat) : Nat := (u + (P25 - v)) % P25
def fm (u v : Nat) : Nat := u * v % P25
def fi (u : Nat) : Nat := pw u (P25 - 2)
theorem fa_lt (u v : Nat) : fa u v < P25 := Nat.mod_lt _ p_pos
theorem fs_lt (u v : Nat) : fs u v < P25 := Nat.mod_lt _ p_pos
theorem fm_lt (u v : Nat) : fm u v < P25 := Nat.mod_lt _ p_pos
theorem fi_lt (u : Nat) : fi u < P25 := pw_lt _ _
theorem elA {x y : L5} {u v : Nat} (hx : El x u) (hy : El y v) : El (x.add y) (fa u v) := el_add hx hy
theorem elS {x y : L5} {u v : Nat} (hx : El x u) (hy : El y v) : El (x.sub y) (fs u v) := el_sub hx hy
theorem elM {x y : L5} {u v : Nat} (hx : El x u) (hy : El y v) : El (x.mul y) (fm u v) := el_mul hx hy
theorem elOf (n : Nat) (h : n < 18446744073709551616) : El (ofL n) n := ⟨lt_mono (ofL_lt n h) (by omega), by unfold P25; omega, by rw [ofL_val, Nat.mod_eq_of_lt (by unfold P25; omega)]⟩
theorem inv_fi (x : L5) (u : Nat) (w : World) (hx : El x u) : Calls Try.prog 34 #[.agg (gArr x.at)] w (RetEl (fi u) w) := inv_any x u w hx
theorem rAdd (u v : Nat) (hu : u < P25) (hv : v < P25) (w : World) : Calls Try.prog 61 #[.agg (fArr (dig u)), .agg (fArr (dig v))] w fun e w' => e = .returned (.agg (fArr (dig (fa u v)))) ∧ Below w.heap.size w w' := refAdd_any u v w (p_lt hu) (p_lt hv)
theorem rSub (u v : Nat) (hu : u < P25) (hv : v < P25) (w : World) : Calls Try.prog 62 #[.agg (fArr (dig u)), .agg (fArr (dig v))] w fun e w' => e = .returned (.agg (fArr (dig (fs u v)))) ∧ Below w.heap.size w w' := refSub_any u v w hu hv
theorem rMul (u v : Nat) (hu : u < P25) (hv : v < P25) (w : World) : Calls Try.prog 48 #[.agg (fArr (dig u)), .agg (fArr (dig v))] w fun e w' => e = .returned (.agg (fArr (dig (fm u v)))) ∧ Below w.heap.size w w' := refMul_any u v w (p_lt hu) (p_lt hv)
theorem rInv (u : Nat) (hu : u < P25) (w : World) : Calls Try.prog 49 #[.agg (fArr (dig u))] w fun e w' => e = .returned (.agg (fArr (dig (fi u)))) ∧ Below w.heap.size w w' := refInv_any u w hu
theorem rNeg (u : Nat) (hu : u < P25) (w : World) : Calls Try.prog 39 #[.agg (fArr (dig u))] w fun e w' => e = .returned (.agg (fArr (dig (fs 0 u)))) ∧ Below w.heap.size w w' := by
  have := refNeg_any u w (Nat.le_of_lt hu)
  unfold fs
  rwa [Nat.zero_add]
theorem fbytes {x : L5} {u : Nat} (hx : El x u) (w : World) : Calls Try.prog 41 #[.agg (gArr x.at)] w fun e w' => e = .returned (.agg (bts u)) ∧ Below w.heap.size w w' := by
  have := bytes_any x w (lt_mono hx.1 (by omega))
  rw [hx.2.2, bArr_bts u (by have := hx.2.1; unfold P25 at this; simp only [Nat.reducePow]; omega)] at this
  exact this

def dN : Nat := fm (fs 0 121665) (fi 121666)
def xx (y : Nat) : Nat := fm (fs (fm y y) 1) (fi (fa (fm dN (fm y y)) 1))
end Go.Proofs.Ytpkoniebbkkmjaa
namespace Go.Proofs.Ytpkoniebbkkmjaa
open Go.RowKit
attribute [local irreducible] fi dN xx rtN rtOk pw
theorem dN_def : dN = fm (fs 0 121665) (fi 121666) := by unfold dN; rfl
set_option maxRecDepth 100000 in
set_option maxHeartbeats 20000000 in
theorem curve_any (w : World) : Calls Try.prog 32 #[] w (RetEl dN w) := by
  have HO1 := Lib.hid (of_g 121665 (by decide))
  have HO2 := Lib.hid (of_g 121666 (by decide))
  have HS1 := Lib.hid (fun w : World => sub_el el_zero (elOf 121665 (by decide)) w)
  have HE := Lib.hid (elS el_zero (elOf 121665 (by decide)))
  have HI := Lib.hid (fun w : World => inv_fi (ofL 121666) 121666 w (elOf 121666 (by decide)))
  go_enter Try.func32, Try.ntmps32
  go_upto_region 1 with fail
  have hR : Box (w.alloc (.cells #[.int .u64 0, .int .u64 0, .int .u64 0, .int .u64 0, .int .u64 0] 27)) w.heap.size 27 #[.int .u64 0, .int .u64 0, .int .u64 0, .int .u64 0, .int .u64 0] := (Box.new w 27 #[.int .u64 0, .int .u64 0, .int .u64 0, .int .u64 0, .int .u64 0])
  have lR : w.heap.size ≤ w.heap.size := by omega
  have hB : Below w.heap.size w (w.alloc (.cells #[.int .u64 0, .int .u64 0, .int .u64 0, .int .u64 0, .int .u64 0] 27)) := ((Below.refl w.heap.size w).alloc (by simp; try omega) (.cells #[.int .u64 0, .int .u64 0, .int .u64 0, .int .u64 0, .int .u64 0] 27))
  have hS := hB.size
  change Code.wp _ _ _ _ (w.alloc (.cells #[.int .u64 0, .int .u64 0, .int .u64 0, .int .u64 0, .int .u64 0] 27))
  generalize (w.alloc (.cells #[.int .u64 0, .int .u64 0, .int .u64 0, .int .u64 0, .int .u64 0] 27)) = v0 at *
  go_step
  refine wpList_value rfl (.agg (gArr L5.zero.at)) (by simp [go_sem]; rfl) ?_
  simp only [Act.put, List.setIfInBounds_toArray, List.set_cons_zero, List.set_cons_succ]
  refine wpList_made_call rfl 29 #[.int .u64 121665] (by simp [go_sem]) _ (HO1.out _) ?_
  intro v1 bv1
  simp only [Act.put, List.setIfInBounds_toArray, List.set_cons_zero, List.set_cons_succ]
  replace hR := hR.after bv1
  replace hB := hB.trans (bv1.mono hS)
  replace hS := Nat.le_trans hS bv1.size
  clear bv1
  refine wpList_made_call rfl 31 #[.agg (gArr L5.zero.at), .agg (gArr (ofL 121665).at)] (by simp [go_sem]) _ (HS1.out _) ?_
  intro v2 bv2
  simp only [Act.put, List.setIfInBounds_toArray, List.set_cons_zero, List.set_cons_succ]
  replace hR := hR.after bv2
  replace hB := hB.trans (bv2.mono hS)
  replace hS := Nat.le_trans hS bv2.size
  clear bv2
  refine wpList_made_call rfl 29 #[.int .u64 121666] (by simp [go_sem]) _ (HO2.out _) ?_
  intro v3 bv3
  simp only [Act.put, List.setIfInBounds_toArray, List.set_cons_zero, List.set_cons_succ]
  replace hR := hR.after bv3
  replace hB := hB.trans (bv3.mono hS)
  replace hS := Nat.le_trans hS bv3.size
  clear bv3
  refine wpList_enterR rfl 34 #[.agg (gArr (ofL 121666).at)] (by simp [go_sem]) _ (HI.out _) ?_
  rintro e v4 ⟨z, rfl, hz, bv4⟩
  refine ⟨_, rfl, ?_⟩
  simp only [Act.put, List.setIfInBounds_toArray, List.set_cons_zero, List.set_cons_succ]
  replace hR := hR.after bv4
  replace hB := hB.trans (bv4.mono hS)
  replace hS := Nat.le_trans hS bv4.size
  clear bv4
  have HZ := Lib.hid hz
  clear hz
  refine wpList_made_call rfl 30 #[.agg (gArr (L5.zero.sub (ofL 121665)).at), .agg (gArr z.at)] (by simp [go_sem]) _ (mul_el HE.out HZ.out _) ?_
  intro v5 bv5
  simp only [Act.put, List.setIfInBounds_toArray, List.set_cons_zero, List.set_cons_succ]
  replace hR := hR.after bv5
  replace hB := hB.trans (bv5.mono hS)
  replace hS := Nat.le_trans hS bv5.size
  clear bv5
  obtain ⟨d, hd, hel⟩ : ∃ d : L5, d = (L5.zero.sub (ofL 121665)).mul z ∧ El d dN := ⟨_, rfl, by rw [dN_def]; exact elM HE.out HZ.out⟩
  have HEL := Lib.hid hel
  rw [← hd]
  clear hel hd
  refine wpList_store_box (cells := gArr d.at) rfl 27 (.tmp 0) (.tmp 6) rfl hR (by rfl) (by rfl) (by rw [gArr_size]; rfl) (by rw [gArr_size]; kernel_rfl) (gArr_one _) ?_
  intro v6 hR_ stv6
  simp only [Act.put]
  replace hB := stv6.below w.heap.size w lR hB
  replace hS := Nat.le_trans hS (Nat.le_of_eq stv6.size.symm)
  clear hR stv6
  have hR := hR_
  clear hR_
  obtain ⟨G, hG⟩ : ∃ G, G = gArr d.at := ⟨_, rfl⟩
  rw [← hG] at hR
  have HGS := Lib.hid (show G.size = 5 by rw [hG]; exact gArr_size _)
  have HG := Lib.hid hG
  clear hG
  go_wp2_with fail
  exact bodyPost_ret (v := .agg G) (box_result rfl _ _ (by rfl) hR Try.underlying27 rfl (by rw [HGS.out]; kernel_rfl)) rfl ⟨d, by rw [HG.out], HEL.out, hB⟩
set_option maxRecDepth 100000 in
set_option maxHeartbeats 20000000 in
theorem refD_any (w : World) : Calls Try.prog 47 #[] w fun e w' => e = .returned (.agg (fArr (dig dN))) ∧ Below w.heap.size w w' := by
  have HO1 := Lib.hid (fun w : World => refOf_any 121665 w (by decide))
  have HO2 := Lib.hid (fun w : World => refOf_any 121666 w (by decide))
  have HN := Lib.hid (rNeg 121665 (by unfold P25; omega))
  have HI := Lib.hid (rInv 121666 (by unfold P25; omega))
  have HM := Lib.hid (rMul (fs 0 121665) (fi 121666) (fs_lt _ _) (fi_lt _))
  rw [← dN_def] at HM
  generalize fs 0 121665 = n1 at *
  generalize fi 121666 = n2 at *
  go_enter Try.func47, Try.ntmps47
  go_upto_region 1 with fail
  have hR : Box (w.alloc (.cells (Array.replicate 16 (Value.int .u64 0)) 34)) w.heap.size 34 (Array.replicate 16 (Value.int .u64 0)) := (Box.new w 34 (Array.replicate 16 (Value.int .u64 0)))
  have lR : w.heap.size ≤ w.heap.size := by omega
  have hB : Below w.heap.size w (w.alloc (.cells (Array.replicate 16 (Value.int .u64 0)) 34)) := ((Below.refl w.heap.size w).alloc (by simp; try omega) (.cells (Array.replicate 16 (Value.int .u64 0)) 34))
  have hS := hB.size
  change Code.wp _ _ _ _ (w.alloc (.cells (Array.replicate 16 (Value.int .u64 0)) 34))
  generalize (w.alloc (.cells (Array.replicate 16 (Value.int .u64 0)) 34)) = v0 at *
  go_step
  refine wpList_made_call rfl 40 #[.int .u64 121665] (by simp [go_sem]) _ (HO1.out _) ?_
  intro v1 bv1
  simp only [Act.put, List.setIfInBounds_toArray, List.set_cons_zero, List.set_cons_succ]
  replace hR := hR.after bv1
  replace hB := hB.trans (bv1.mono hS)
  replace hS := Nat.le_trans hS bv1.size
  clear bv1
  refine wpList_made_call rfl 39 #[.agg (fArr (dig 121665))] (by simp [go_sem]) _ (HN.out _) ?_
  intro v2 bv2
  simp only [Act.put, List.setIfInBounds_toArray, List.set_cons_zero, List.set_cons_succ]
  replace hR := hR.after bv2
  replace hB := hB.trans (bv2.mono hS)
  replace hS := Nat.le_trans hS bv2.size
  clear bv2
  refine wpList_made_call rfl 40 #[.int .u64 121666] (by simp [go_sem]) _ (HO2.out _) ?_
  intro v3 bv3
  simp only [Act.put, List.setIfInBounds_toArray, List.set_cons_zero, List.set_cons_succ]
  replace hR := hR.after bv3
  replace hB := hB.trans (bv3.mono hS)
  replace hS := Nat.le_trans hS bv3.size
  clear bv3
  refine wpList_made_call rfl 49 #[.agg (fArr (dig 121666))] (by simp [go_sem]) _ (HI.out _) ?_
  intro v4 bv4
  simp only [Act.put, List.setIfInBounds_toArray, List.set_cons_zero, List.set_cons_succ]
  replace hR := hR.after bv4
  replace hB := hB.trans (bv4.mono hS)
  replace hS := Nat.le_trans hS bv4.size
  clear bv4
  refine wpList_made_call rfl 48 #[.agg (fArr (dig n1)), .agg (fArr (dig n2))] (by simp [go_sem]) _ (HM.out _) ?_
  intro v5 bv5
  simp only [Act.put, List.setIfInBounds_toArray, List.set_cons_zero, List.set_cons_succ]
  replace hR := hR.after bv5
  replace hB := hB.trans (bv5.mono hS)
  replace hS := Nat.le_trans hS bv5.size
  clear bv5
  refine wpList_store_box (cells := fArr (dig dN)) rfl 34 (.tmp 0) (.tmp 5) rfl hR (by rfl) (by rfl) (by rw [fArr_size]; rfl) (by rw [fArr_size]; kernel_rfl) (fArr_one _) ?_
  intro v6 hR_ stv6
  simp only [Act.put]
  replace hB := stv6.below w.heap.size w lR hB
  replace hS := Nat.le_trans hS (Nat.le_of_eq stv6.size.symm)
  clear hR stv6
  have hR := hR_
  clear hR_
  obtain ⟨G, hG⟩ : ∃ G, G = fArr (dig dN) := ⟨_, rfl⟩
  rw [← hG] at hR
  have HGS := Lib.hid (show G.size = 16 by rw [hG]; exact fArr_size _)
  have HG := Lib.hid hG
  clear hG
  go_wp2_with fail
  exact bodyPost_ret (v := .agg G) (box_result rfl _ _ (by rfl) hR Try.underlying34 rfl (by rw [HGS.out]; kernel_rfl)) rfl ⟨by rw [HG.out], hB⟩
theorem xx_def (y : Nat) : xx y = fm (fs (fm y y) 1) (fi (fa (fm dN (fm y y)) 1)) := by unfold xx; rfl
set_option maxRecDepth 100000 in
set_option maxHeartbeats 20000000 in
theorem refRoot7_any (y : Nat) (hy : y < P25) (w : World) : Calls Try.prog 38 #[.agg (fArr (dig y))] w fun e w' => e = .returned (.tuple #[.agg (fArr (dig (rtN (xx y)))), .bool (rtOk (xx y))]) ∧ Below w.heap.size w w' := by
  have HO := Lib.hid (fun w : World => refOf_any 1 w (by decide))
  have one_lt : 1 < P25 := by unfold P25; omega
  have HYY := Lib.hid (rMul y y hy hy)
  have HDM := Lib.hid (rMul dN (fm y y) (by rw [dN_def]; exact fm_lt _ _) (fm_lt _ _))
  have HAD := Lib.hid (rAdd (fm dN (fm y y)) 1 (fm_lt _ _) one_lt)
  have HSB := Lib.hid (rSub (fm y y) 1 (fm_lt _ _) one_lt)
  have HIN := Lib.hid (rInv (fa (fm dN (fm y y)) 1) (fa_lt _ _))
  have HM2 := Lib.hid (rMul (fs (fm y y) 1) (fi (fa (fm dN (fm y y)) 1)) (fs_lt _ _) (fi_lt _))
  have hx5 := xx_def y
  have hxl : xx y < P25 := by rw [hx5]; exact fm_lt _ _
  have HRT := Lib.hid (fun w : World => refRoot_any (xx y) w hxl)
  rw [← hx5] at HM2
  clear hx5 hxl one_lt hy
  generalize fm y y = yy at *
  generalize fm dN yy = n1 at *
  generalize fa n1 1 = n2 at *
  generalize fs yy 1 = n3 at *
  generalize fi n2 = n4 at *
  generalize xx y = n5 at *
  generalize rtN n5 = rn at *
  generalize rtOk n5 = c at *
  go_enter Try.func38, Try.ntmps38
  go_upto_region 1 with fail
  have hY : Box ((w.alloc (.cells (fArr (dig y)) 34)).alloc (.cells (Array.replicate 16 (Value.int .u64 0)) 34)) w.heap.size 34 (fArr (dig y)) := ((Box.new w 34 (fArr (dig y))).alloc (.cells (Array.replicate 16 (Value.int .u64 0)) 34))
  have lY : w.heap.size ≤ w.heap.size := by omega
  have hR : Box ((w.alloc (.cells (fArr (dig y)) 34)).alloc (.cells (Array.replicate 16 (Value.int .u64 0)) 34)) (w.heap.size + 1) 34 (Array.replicate 16 (Value.int .u64 0)) := by
    have := (Box.new (w.alloc (.cells (fArr (dig y)) 34)) 34 (Array.replicate 16 (Value.int .u64 0)))
    simp only [World.size_alloc] at this
    exact this
  have lR : w.heap.size ≤ (w.heap.size + 1) := by omega
  have n_Y_R : w.heap.size ≠ (w.heap.size + 1) := by omega
  have n_R_Y : (w.heap.size + 1) ≠ w.heap.size := by omega
  have hB : Below w.heap.size w ((w.alloc (.cells (fArr (dig y)) 34)).alloc (.cells (Array.replicate 16 (Value.int .u64 0)) 34)) := (((Below.refl w.heap.size w).alloc (by simp; try omega) (.cells (fArr (dig y)) 34)).alloc (by simp; try omega) (.cells (Array.replicate 16 (Value.int .u64 0)) 34))
  have hS := hB.size
  change Code.wp _ _ _ _ ((w.alloc (.cells (fArr (dig y)) 34)).alloc (.cells (Array.replicate 16 (Value.int .u64 0)) 34))
  generalize ((w.alloc (.cells (fArr (dig y)) 34)).alloc (.cells (Array.replicate 16 (Value.int .u64 0)) 34)) = v0 at *
  go_step
  refine wpList_made_call rfl 40 #[.int .u64 1] (by simp [go_sem]) _ (HO.out _) ?_
  intro v1 bv1
  simp only [Act.put, List.setIfInBounds_toArray, List.set_cons_zero, List.set_cons_succ]
  replace hY := hY.after bv1
  replace hR := hR.after bv1
  replace hB := hB.trans (bv1.mono hS)
  replace hS := Nat.le_trans hS bv1.size
  clear bv1
  refine wpList_new rfl 34 rfl (Array.replicate 16 (Value.int .u64 0)) (by intro w; simp [go_sem]; rfl) ?_
  intro gO v2 hO lO bv2
  simp only [Act.put, List.setIfInBounds_toArray, List.set_cons_zero, List.set_cons_succ]
  have n_Y_O := hY.before lO
  have n_O_Y := hY.behind lO
  have n_R_O := hR.before lO
  have n_O_R := hR.behind lO
  replace lO := Nat.le_trans hS lO
  replace hY := hY.after bv2
  replace hR := hR.after bv2
  replace hB := hB.trans (bv2.mono hS)
  replace hS := Nat.le_trans hS bv2.size
  clear bv2
  refine wpList_store_box (cells := fArr (dig 1)) rfl 34 (.tmp 4) (.tmp 7) rfl hO (by rfl) (by rfl) (by rw [fArr_size]; rfl) (by rw [fArr_size]; kernel_rfl) (fArr_one _) ?_
  intro v3 hO_ stv3
  simp only [Act.put]
  replace hY := stv3.box hY n_Y_O
  replace hR := stv3.box hR n_R_O
  replace hB := stv3.below w.heap.size w lO hB
  replace hS := Nat.le_trans hS (Nat.le_of_eq stv3.size.symm)
  clear hO stv3
  have hO := hO_
  clear hO_
  go_upto_region 2 with fail
  go_step
  refine wpList_load_box rfl 34 _ rfl hY (by rfl) Try.underlying34 rfl (by rw [fArr_size]; kernel_rfl) ?_
  simp only [Act.put, List.setIfInBounds_toArray, List.set_cons_zero, List.set_cons_succ]
  refine wpList_load_box rfl 34 _ rfl hY (by rfl) Try.underlying34 rfl (by rw [fArr_size]; kernel_rfl) ?_
  simp only [Act.put, List.setIfInBounds_toArray, List.set_cons_zero, List.set_cons_succ]
  refine wpList_made_call rfl 48 #[.agg (fArr (dig y)), .agg (fArr (dig y))] (by simp [go_sem]) _ (HYY.out _) ?_
  intro v4 bv4
  simp only [Act.put, List.setIfInBounds_toArray, List.set_cons_zero, List.set_cons_succ]
  replace hY := hY.after bv4
  replace hR := hR.after bv4
  replace hO := hO.after bv4
  replace hB := hB.trans (bv4.mono hS)
  replace hS := Nat.le_trans hS bv4.size
  clear bv4
  refine wpList_new rfl 34 rfl (Array.replicate 16 (Value.int .u64 0)) (by intro w; simp [go_sem]; rfl) ?_
  intro gQ v5 hQ lQ bv5
  simp only [Act.put, List.setIfInBounds_toArray, List.set_cons_zero, List.set_cons_succ]
  have n_Y_Q := hY.before lQ
  have n_Q_Y := hY.behind lQ
  have n_R_Q := hR.before lQ
  have n_Q_R := hR.behind lQ
  have n_O_Q := hO.before lQ
  have n_Q_O := hO.behind lQ
  replace lQ := Nat.le_trans hS lQ
  replace hY := hY.after bv5
  replace hR := hR.after bv5
  replace hO := hO.after bv5
  replace hB := hB.trans (bv5.mono hS)
  replace hS := Nat.le_trans hS bv5.size
  clear bv5
  refine wpList_store_box (cells := fArr (dig yy)) rfl 34 (.tmp 5) (.tmp 10) rfl hQ (by rfl) (by rfl) (by rw [fArr_size]; rfl) (by rw [fArr_size]; kernel_rfl) (fArr_one _) ?_
  intro v6 hQ_ stv6
  simp only [Act.put]
  replace hY := stv6.box hY n_Y_Q
  replace hR := stv6.box hR n_R_Q
  replace hO := stv6.box hO n_O_Q
  replace hB := stv6.below w.heap.size w lQ hB
  replace hS := Nat.le_trans hS (Nat.le_of_eq stv6.size.symm)
  clear hQ stv6
  have hQ := hQ_
  clear hQ_
  go_upto_region 3 with fail
  have hKS : Keeps (fun w' => Box w' gQ 34 (fArr (dig yy)) ∧ Box w' gO 34 (fArr (dig 1))) := fun w w' h b => ⟨h.1.after b, h.2.after b⟩
  refine wp_region_U (w := v6) (fun w' => Box w' gQ 34 (fArr (dig yy)) ∧ Box w' gO 34 (fArr (dig 1))) rfl (⟨hQ.drew, hO.drew⟩) ?_
  replace hY := hY.drew
  replace hR := hR.drew
  replace hO := hO.drew
  replace hQ := hQ.drew
  replace hB := hB.drew
  replace hS := Nat.le_trans hS (show v6.heap.size ≤ v6.drew.heap.size from Nat.le_refl _)
  refine wpU_call 0 hKS rfl (by kernel_rfl) (by kernel_rfl) (by kernel_rfl) rfl (fun _ _ _ _ h => h) 47 #[] (fun w => by simp [go_sem]) _ (refD_any) ?_
  simp only [Act.put, List.setIfInBounds_toArray, List.set_cons_zero, List.set_cons_succ]
  refine wpU_val 1 hKS rfl (by kernel_rfl) (by kernel_rfl) (by kernel_rfl) rfl (fun _ _ _ _ h => h) (.agg (fArr (dig yy))) (fun w' h => run_load_box rfl h.1 (by simp [go_sem]) Try.underlying34 rfl (by rw [fArr_size]; kernel_rfl)) ?_
  simp only [Act.put, List.setIfInBounds_toArray, List.set_cons_zero, List.set_cons_succ]
  refine wpU_call 2 hKS rfl (by kernel_rfl) (by kernel_rfl) (by kernel_rfl) rfl (fun _ _ _ _ h => h) 48 #[.agg (fArr (dig dN)), .agg (fArr (dig yy))] (fun w => by simp [go_sem]) _ (HDM.out) ?_
  simp only [Act.put, List.setIfInBounds_toArray, List.set_cons_zero, List.set_cons_succ]
  refine wpU_val 3 hKS rfl (by kernel_rfl) (by kernel_rfl) (by kernel_rfl) rfl (fun _ _ _ _ h => h) (.agg (fArr (dig 1))) (fun w' h => run_load_box rfl h.2 (by simp [go_sem]) Try.underlying34 rfl (by rw [fArr_size]; kernel_rfl)) ?_
  simp only [Act.put, List.setIfInBounds_toArray, List.set_cons_zero, List.set_cons_succ]
  refine wpU_call 4 hKS rfl (by kernel_rfl) (by kernel_rfl) (by kernel_rfl) rfl (fun _ _ _ _ h => h) 61 #[.agg (fArr (dig n1)), .agg (fArr (dig 1))] (fun w => by simp [go_sem]) _ (HAD.out) ?_
  simp only [Act.put, List.setIfInBounds_toArray, List.set_cons_zero, List.set_cons_succ]
  refine wpU_one 5 rfl (by kernel_rfl) rfl ?_
  intro v7 bv7 sS
  replace hY := hY.after bv7
  replace hR := hR.after bv7
  replace hO := hO.after bv7
  replace hQ := hQ.after bv7
  replace hB := hB.trans (bv7.mono hS)
  replace hS := Nat.le_trans hS bv7.size
  clear bv7
  refine wp_alloc_new 34 rfl (Array.replicate 16 (Value.int .u64 0)) (by intro w; simp [go_sem]; rfl) ?_
  intro gV v8 hV lV bv8
  refine ⟨hKS _ _ sS bv8, ?_⟩
  have n_Y_V := hY.before lV
  have n_V_Y := hY.behind lV
  have n_R_V := hR.before lV
  have n_V_R := hR.behind lV
  have n_O_V := hO.before lV
  have n_V_O := hO.behind lV
  have n_Q_V := hQ.before lV
  have n_V_Q := hQ.behind lV
  replace lV := Nat.le_trans hS lV
  replace sS := hKS _ _ sS bv8
  simp only [Act.put, List.setIfInBounds_toArray, List.set_cons_zero, List.set_cons_succ]
  replace hY := hY.after bv8
  replace hR := hR.after bv8
  replace hO := hO.after bv8
  replace hQ := hQ.after bv8
  replace hB := hB.trans (bv8.mono hS)
  replace hS := Nat.le_trans hS bv8.size
  clear bv8
  refine wpU_store_box (cells := fArr (dig n2)) 6 rfl (by kernel_rfl) rfl 34 (.tmp 6) (.tmp 15) rfl hV (by simp [go_sem]) (by simp [go_sem]) (by rw [fArr_size]; rfl) (by rw [fArr_size]; kernel_rfl) (fArr_one _) ?_
  intro v9 v10 bv9 sS hV_ stv10
  refine ⟨⟨stv10.box sS.1 n_Q_V, stv10.box sS.2 n_O_V⟩, ?_⟩
  simp only [Act.put]
  replace hY := hY.after bv9
  replace hR := hR.after bv9
  replace hO := hO.after bv9
  replace hQ := hQ.after bv9
  replace hV := hV.after bv9
  replace hB := hB.trans (bv9.mono hS)
  replace hS := Nat.le_trans hS bv9.size
  clear bv9
  replace hY := stv10.box hY n_Y_V
  replace hR := stv10.box hR n_R_V
  replace hO := stv10.box hO n_O_V
  replace hQ := stv10.box hQ n_Q_V
  replace hB := stv10.below w.heap.size w lV hB
  replace hS := Nat.le_trans hS (Nat.le_of_eq stv10.size.symm)
  clear hV stv10 sS
  have hV := hV_
  clear hV_
  refine wpU_done (by kernel_rfl) ?_
  intro v11 bv11 sS
  clear hKS sS
  replace hY := hY.after bv11
  replace hR := hR.after bv11
  replace hO := hO.after bv11
  replace hQ := hQ.after bv11
  replace hV := hV.after bv11
  replace hB := hB.trans (bv11.mono hS)
  replace hS := Nat.le_trans hS bv11.size
  clear bv11
  go_upto_region 4 with fail
  have hKS : Keeps (fun w' => Box w' gQ 34 (fArr (dig yy)) ∧ Box w' gO 34 (fArr (dig 1)) ∧ Box w' gV 34 (fArr (dig n2))) := fun w w' h b => ⟨h.1.after b, h.2.1.after b, h.2.2.after b⟩
  refine wp_region_U (w := v11) (fun w' => Box w' gQ 34 (fArr (dig yy)) ∧ Box w' gO 34 (fArr (dig 1)) ∧ Box w' gV 34 (fArr (dig n2))) rfl (⟨hQ.drew, hO.drew, hV.drew⟩) ?_
  replace hY := hY.drew
  replace hR := hR.drew
  replace hO := hO.drew
  replace hQ := hQ.drew
  replace hV := hV.drew
  replace hB := hB.drew
  replace hS := Nat.le_trans hS (show v11.heap.size ≤ v11.drew.heap.size from Nat.le_refl _)
  refine wpU_val 0 hKS rfl (by kernel_rfl) (by kernel_rfl) (by kernel_rfl) rfl (fun _ _ _ _ h => h) (.agg (fArr (dig yy))) (fun w' h => run_load_box rfl h.1 (by simp [go_sem]) Try.underlying34 rfl (by rw [fArr_size]; kernel_rfl)) ?_
  simp only [Act.put, List.setIfInBounds_toArray, List.set_cons_zero, List.set_cons_succ]
  refine wpU_val 1 hKS rfl (by kernel_rfl) (by kernel_rfl) (by kernel_rfl) rfl (fun _ _ _ _ h => h) (.agg (fArr (dig 1))) (fun w' h => run_load_box rfl h.2.1 (by simp [go_sem]) Try.underlying34 rfl (by rw [fArr_size]; kernel_rfl)) ?_
  simp only [Act.put, List.setIfInBounds_toArray, List.set_cons_zero, List.set_cons_succ]
  refine wpU_call 2 hKS rfl (by kernel_rfl) (by kernel_rfl) (by kernel_rfl) rfl (fun _ _ _ _ h => h) 62 #[.agg (fArr (dig yy)), .agg (fArr (dig 1))] (fun w => by simp [go_sem]) _ (HSB.out) ?_
  simp only [Act.put, List.setIfInBounds_toArray, List.set_cons_zero, List.set_cons_succ]
  refine wpU_val 3 hKS rfl (by kernel_rfl) (by kernel_rfl) (by kernel_rfl) rfl (fun _ _ _ _ h => h) (.agg (fArr (dig n2))) (fun w' h => run_load_box rfl h.2.2 (by simp [go_sem]) Try.underlying34 rfl (by rw [fArr_size]; kernel_rfl)) ?_
  simp only [Act.put, List.setIfInBounds_toArray, List.set_cons_zero, List.set_cons_succ]
  refine wpU_call 4 hKS rfl (by kernel_rfl) (by kernel_rfl) (by kernel_rfl) rfl (fun _ _ _ _ h => h) 49 #[.agg (fArr (dig n2))] (fun w => by simp [go_sem]) _ (HIN.out) ?_
  simp only [Act.put, List.setIfInBounds_toArray, List.set_cons_zero, List.set_cons_succ]
  refine wpU_call 5 hKS rfl (by kernel_rfl) (by kernel_rfl) (by kernel_rfl) rfl (fun _ _ _ _ h => h) 48 #[.agg (fArr (dig n3)), .agg (fArr (dig n4))] (fun w => by simp [go_sem]) _ (HM2.out) ?_
  simp only [Act.put, List.setIfInBounds_toArray, List.set_cons_zero, List.set_cons_succ]
  refine wpU_call 6 hKS rfl (by kernel_rfl) (by kernel_rfl) (by kernel_rfl) rfl (fun _ _ _ _ h => h) 63 #[.agg (fArr (dig n5))] (fun w => by simp [go_sem]) _ (HRT.out) ?_
  simp only [Act.put, List.setIfInBounds_toArray, List.set_cons_zero, List.set_cons_succ]
  refine wpU_val 7 hKS rfl (by kernel_rfl) (by kernel_rfl) (by kernel_rfl) rfl (fun _ _ _ _ h => h) (.agg (fArr (dig rn))) (fun w' h => by simp [go_sem]) ?_
  simp only [Act.put, List.setIfInBounds_toArray, List.set_cons_zero, List.set_cons_succ]
  refine wpU_val 8 hKS rfl (by kernel_rfl) (by kernel_rfl) (by kernel_rfl) rfl (fun _ _ _ _ h => h) (.bool c) (fun w' h => by simp [go_sem]) ?_
  simp only [Act.put, List.setIfInBounds_toArray, List.set_cons_zero, List.set_cons_succ]
  refine wpU_store_box (cells := fArr (dig rn)) 9 rfl (by kernel_rfl) rfl 34 (.tmp 2) (.tmp 23) rfl hR (by simp [go_sem]) (by simp [go_sem]) (by rw [fArr_size]; rfl) (by rw [fArr_size]; kernel_rfl) (fArr_one _) ?_
  intro v12 v13 bv12 sS hR_ stv13
  refine ⟨⟨stv13.box sS.1 n_Q_R, stv13.box sS.2.1 n_O_R, stv13.box sS.2.2 n_V_R⟩, ?_⟩
  simp only [Act.put]
  replace hY := hY.after bv12
  replace hR := hR.after bv12
  replace hO := hO.after bv12
  replace hQ := hQ.after bv12
  replace hV := hV.after bv12
  replace hB := hB.trans (bv12.mono hS)
  replace hS := Nat.le_trans hS bv12.size
  clear bv12
  replace hY := stv13.box hY n_Y_R
  replace hO := stv13.box hO n_O_R
  replace hQ := stv13.box hQ n_Q_R
  replace hV := stv13.box hV n_V_R
  replace hB := stv13.below w.heap.size w lR hB
  replace hS := Nat.le_trans hS (Nat.le_of_eq stv13.size.symm)
  clear hR stv13 sS
  have hR := hR_
  clear hR_
  refine wpU_val 10 hKS rfl (by kernel_rfl) (by kernel_rfl) (by kernel_rfl) rfl (fun _ _ _ _ h => h) (.bool c) (fun w' h => by simp [go_sem]) ?_
  simp only [Act.put, List.setIfInBounds_toArray, List.set_cons_zero, List.set_cons_succ]
  refine wpU_done (by kernel_rfl) ?_
  intro v14 bv14 sS
  clear hKS sS
  replace hY := hY.after bv14
  replace hR := hR.after bv14
  replace hO := hO.after bv14
  replace hQ := hQ.after bv14
  replace hV := hV.after bv14
  replace hB := hB.trans (bv14.mono hS)
  replace hS := Nat.le_trans hS bv14.size
  clear bv14
  obtain ⟨G, hG⟩ : ∃ G, G = fArr (dig rn) := ⟨_, rfl⟩
  rw [← hG] at hR
  have HGS := Lib.hid (show G.size = 16 by rw [hG]; exact fArr_size _)
  have HG := Lib.hid hG
  clear hG hY hO hQ hV
  go_wp2_with fail
  exact bodyPost_ret (v := .tuple #[.agg G, .bool c]) (box_result2 (p := 2) (q := 3) rfl _ _ (by rfl) hR Try.underlying34 rfl (by rw [HGS.out]; kernel_rfl)) rfl ⟨by rw [HG.out], hB⟩
end Go.Proofs.Ytpkoniebbkkmjaa
namespace Go.Proofs.Ytpkoniebbkkmjaa
open Go.RowKit

/-- a slice comes back whose cells are its own -/
def RetOwn (l : List UInt8) (w : World) (e : Ending) (w' : World) : Prop := ∃ v, e = .returned v ∧ w'.ownsRow (w.heap.size + 1) 5 1 v l.length (Lib.byteCells l) ∧ Below w.heap.size w w'

set_option maxRecDepth 100000 in
set_option maxHeartbeats 1000000 in
theorem refBytes_own (n : Nat) (w : World) :
    Calls Try.prog 65 #[.agg (fArr (dig n))] w (RetOwn (leBytes n 32) w) := by
  obtain ⟨C0, hC0⟩ : ∃ C0, C0 = fArr (dig n) := ⟨_, rfl⟩
  obtain ⟨i0, hi, hz0, hz1, hz2⟩ := info_parts infoU8
  rw [← hC0]
  have HC0 := Lib.hid hC0
  clear hC0
  have hdl := dig_lt n
  have hx0 := Box.new w 34 C0
  have hb0 : Below w.heap.size w (w.alloc (.cells C0 34)) := (Below.refl _ _).alloc (Nat.le_refl _) _
  have hs0 : (w.alloc (.cells C0 34)).heap.size = w.heap.size + 1 := by simp
  obtain ⟨W0, hW0⟩ : ∃ W0, W0 = w.alloc (.cells C0 34) := ⟨_, rfl⟩
  rw [← hW0] at hx0 hb0 hs0
  have hown0 : (W0.alloc (.cells #[] 5)).ownsRow (w.heap.size + 1) 5 1 (.slice (some ⟨w.heap.size + 1, 0, none⟩) 0 0) 0 (Lib.byteCells []) := by
    have := World.ownsRow_lit (base := w.heap.size + 1) (size := 1) (e := 5) W0 #[] 0 (by omega) (Nat.zero_le _) rfl
    rw [hs0] at this
    exact this
  have hB0 : Below (w.heap.size + 1) W0 (W0.alloc (.cells #[] 5)) := (Below.refl _ _).alloc (by omega) _
  have HW0 := Lib.hid hW0
  have HDL := Lib.hid hdl
  have HS0 := Lib.hid hs0
  clear hW0 hdl hs0
  go_enter Try.func65, Try.ntmps65
  go_wp2_with fail
  rw [← HW0.out]
  go_loopw [3, 4] (fun out i wr => ∃ k : Nat, k ≤ 16 ∧ i = .int .i64 k ∧ wr.ownsRow (w.heap.size + 1) 5 1 out (2 * k) (Lib.byteCells (leBytes n (2 * k))) ∧ Below (w.heap.size + 1) W0 wr) (fun _ i _ => 16 - (intOf i).toNat)
  case atStart => exact ⟨0, Nat.zero_le _, rfl, hown0, hB0⟩
  case round =>
    obtain ⟨wa, rfl⟩ : ∃ wa : World, wa = wr := ⟨_, rfl⟩
    obtain ⟨k, hk, rfl, hown, hB⟩ := hrel
    clear hown0 hB0
    by_cases hlt : k < 16
    · have HE := Lib.hid (leBytes_two n k)
      have hl := HDL.out k
      have hC := fArr_get (dig n) k hlt
      rw [← HC0.out] at hC
      obtain ⟨x, hx⟩ : ∃ x, x = dig n k := ⟨_, rfl⟩
      rw [← hx] at hl hC HE
      clear hx
      have e1 : (x : Int) % 256 = ((UInt8.ofNat (x % 256)).toNat : Int) := by simp
      have e2 : (x : Int) / 256 = ((UInt8.ofNat (x / 256)).toNat : Int) := by simp; omega
      have l1 := (UInt8.ofNat (x % 256)).toNat_lt
      have l2 := (UInt8.ofNat (x / 256)).toNat_lt
      obtain ⟨c, hc⟩ : ∃ c, c = UInt8.ofNat (x % 256) := ⟨_, rfl⟩
      obtain ⟨d, hd⟩ : ∃ d, d = UInt8.ofNat (x / 256) := ⟨_, rfl⟩
      rw [← hc] at e1 l1 HE
      rw [← hd] at e2 l2 HE
      have e3 : IntKind.u8.wrap (c.toNat : Int) = (c.toNat : Int) := by rw [IntKind.wrap_u8]; omega
      have e4 : IntKind.u8.wrap (d.toNat : Int) = (d.toNat : Int) := by rw [IntKind.wrap_u8]; omega
      have e5 : IntKind.u64.wrap (d.toNat : Int) = (d.toNat : Int) := by rw [IntKind.wrap_u64]; omega
      have b5 : (0 : Int) ≤ (k : Int) := by omega
      have b6 : (k : Int) < 16 := by omega
      have b7 : IntKind.i64.wrap (k : Int) = (k : Int) := by rw [IntKind.wrap_i64]; omega
      have e1' : (x : Int).tmod 256 = (c.toNat : Int) := by rw [Int.tmod_eq_emod_of_nonneg (by omega)]; exact e1
      have e2' : (x : Int).tdiv 256 = (d.toNat : Int) := by rw [Int.tdiv_eq_ediv_of_nonneg (by omega)]; exact e2
      clear hc hd
      have hcell : ∀ w', Below (w.heap.size + 1) W0 w' → w'.cell? ⟨w.heap.size, k, none⟩ = some (.int .u64 x) := fun w' h => (hx0.below h (by omega)).cell k hC
      go_upto_region 5 with fail
      refine wp_region_held_drew (S := fun w' => Below (w.heap.size + 1) W0 w') rfl hB.drew (fun _ => ?_)
      refine wpH_take 0 rfl (by kernel_rfl) (by kernel_rfl) (by kernel_rfl) rfl (fun _ _ _ _ h => h) (u3) (fun w' h => by simp [go_sem]) hB.drew ?_
      refine wpH_take 1 rfl (by kernel_rfl) (by kernel_rfl) (by kernel_rfl) rfl (fun _ _ _ _ h => h) (.int .i64 k) (fun w' h => by simp [go_sem, Act.put]) hB.drew ?_
      refine wpH_take 2 rfl (by kernel_rfl) (by kernel_rfl) (by kernel_rfl) rfl (fun _ _ _ _ h => h) (.pointer (some ⟨w.heap.size, k, none⟩)) (fun w' h => by simp [go_sem, Act.put, b5, b6]) hB.drew ?_
      refine wpH_take 3 rfl (by kernel_rfl) (by kernel_rfl) (by kernel_rfl) rfl (fun _ _ _ _ h => h) (.int .u64 x) (fun w' h => by simp [go_sem, Act.put, hcell w' h]) hB.drew ?_
      refine wpH_take 4 rfl (by kernel_rfl) (by kernel_rfl) (by kernel_rfl) rfl (fun _ _ _ _ h => h) (.int .u64 (c.toNat : Int)) (fun w' h => by simp [go_sem, Act.put, e1']) hB.drew ?_
      refine wpH_take 5 rfl (by kernel_rfl) (by kernel_rfl) (by kernel_rfl) rfl (fun _ _ _ _ h => h) (.int .u8 (c.toNat : Int)) (fun w' h => by simp [go_sem, Act.put, e3]) hB.drew ?_
      refine wpH_take 6 rfl (by kernel_rfl) (by kernel_rfl) (by kernel_rfl) rfl (fun _ _ _ _ h => h) (.int .i64 k) (fun w' h => by simp [go_sem, Act.put]) hB.drew ?_
      refine wpH_take 7 rfl (by kernel_rfl) (by kernel_rfl) (by kernel_rfl) rfl (fun _ _ _ _ h => h) (.pointer (some ⟨w.heap.size, k, none⟩)) (fun w' h => by simp [go_sem, Act.put, b5, b6]) hB.drew ?_
      refine wpH_take 8 rfl (by kernel_rfl) (by kernel_rfl) (by kernel_rfl) rfl (fun _ _ _ _ h => h) (.int .u64 x) (fun w' h => by simp [go_sem, Act.put, hcell w' h]) hB.drew ?_
      refine wpH_take 9 rfl (by kernel_rfl) (by kernel_rfl) (by kernel_rfl) rfl (fun _ _ _ _ h => h) (.int .u64 (d.toNat : Int)) (fun w' h => by simp [go_sem, Act.put, e2', e5]) hB.drew ?_
      refine wpH_take 10 rfl (by kernel_rfl) (by kernel_rfl) (by kernel_rfl) rfl (fun _ _ _ _ h => h) (.int .u8 (d.toNat : Int)) (fun w' h => by simp [go_sem, Act.put, e4]) hB.drew ?_
      have hBn : Below (w.heap.size + 1) W0 (wa.drew.alloc (.cells #[.int .u8 (c.toNat : Int), .int .u8 (d.toNat : Int)] 5)) := hB.drew.alloc (by have := hB.size; have := HS0.out; simp; omega) _
      refine wpH_run 11 rfl (by kernel_rfl) rfl (.slice (some ⟨wa.heap.size, 0, none⟩) 2 2) (wa.drew.alloc (.cells #[.int .u8 (c.toNat : Int), .int .u8 (d.toNat : Int)] 5)) (by simp [go_sem, Act.put]) hBn ?_
      have hct := cellTwo wa.drew (.int .u8 (c.toNat : Int)) (.int .u8 (d.toNat : Int)) wa.heap.size rfl
      refine wpH_append_sl 12 rfl (by kernel_rfl) rfl (.tmp 10) (.tmp 21) 22 rfl (w.heap.size + 1) 5 i0 Try.underlying22 hi hz0 hz1 hz2 u3 (2 * k) (leBytes n (2 * k)) (by simp [go_sem, Act.put]) (hown.drew.alloc _) (some ⟨wa.heap.size, 0, none⟩) 2 2 [c, d] (by simp [go_sem, Act.put]) (slTwo _ _ _ _ hct.1 hct.2) (by omega) (by have := hB.size; have := HS0.out; simp; omega) ?_
      intro v1 w1 hown1 hg1
      have hB1 : Below (w.heap.size + 1) W0 w1 := hBn.grown hg1 (by have := hB.size; have := HS0.out; simp; omega) (fun j hj => (hown.lt j hj).1)
      refine ⟨hB1, ?_⟩
      refine wpH_take 13 rfl (by kernel_rfl) (by kernel_rfl) (by kernel_rfl) rfl (fun _ _ _ _ h => h) v1 (fun w' h => by simp [go_sem, Act.put]) hB1 ?_
      refine wpAnyH_done (by kernel_rfl) ?_ _
      simp only [Act.put, List.setIfInBounds_toArray, List.set_cons_zero, List.set_cons_succ]
      rw [← HE.out] at hown1
      clear hBn hct hg1 hown hcell hB
      go_wp2_with fail
      refine ⟨⟨k + 1, by omega, by go_num, hown1, hB1⟩, by simp [intOf]; omega⟩
    · obtain rfl : k = 16 := by omega
      obtain ⟨a1, c1, e1, hS⟩ := Sl.ofOwns hown
      subst e1
      have HOWN := Lib.hid hown
      have hBw : Below w.heap.size w wa := hb0.trans (hB.mono (by omega))
      clear hx0 hb0 hS hown
      go_wp2_with fail
      go_ret
      exact ⟨_, rfl, by rw [leBytes_len]; exact HOWN.out, hBw⟩
end Go.Proofs.Ytpkoniebbkkmjaa
namespace Go.Proofs.Ytpkoniebbkkmjaa
open Go.RowKit
attribute [local irreducible] fi dN xx rtN rtOk pw

def pN (u v n : Nat) : Nat := fm v (fi n) + 2 ^ 255 * (fm u (fi n) % 2)
theorem P25_255 {n : Nat} (h : n < P25) : n < 2 ^ 255 := by
  unfold P25 at h
  simp only [Nat.reducePow]
  omega
theorem pN_lt (u v n : Nat) : pN u v n < 256 ^ 32 := by
  have h1 := P25_255 (fm_lt v (fi n))
  unfold pN
  generalize fm v (fi n) = a at *
  generalize fm u (fi n) = b at *
  simp only [Nat.reducePow] at *
  omega
theorem own_open {w : World} {B e n : Nat} {v : Value} (h : w.ownsRow B e 1 v 32 (Lib.byteCells (leBytes n 32))) : ∃ g cap cur, v = .slice (some ⟨g, 0, none⟩) 32 cap ∧ B ≤ g ∧ Box w g e cur ∧ 32 ≤ cap ∧ cap ≤ maxLen ∧ ∀ j, j < 32 → cur[j]? = some (.int .u8 (n / 256 ^ j % 256 : Nat)) := by
  rcases h.2 with ⟨_, h0⟩ | ⟨g, cap, cur, rfl, hg, hb, hn, hm, hs, ht⟩
  · cases h0
  · refine ⟨g, cap, cur, rfl, hg, hb, hn, hm, fun j hj => ?_⟩
    have h1 : (cur.toList.take 32)[j]? = (Lib.byteCells (leBytes n 32))[j]? := by rw [← ht]
    rw [List.getElem?_take_of_lt hj] at h1
    rw [← Array.getElem?_toList, h1]
    simp [Lib.byteCells, leBytes, hj]
theorem sl_cells {w : World} {g e cap n : Nat} {cur : Array Value} (hb : Box w g e cur) (h1 : 32 ≤ cap) (h2 : cap ≤ maxLen) (h : ∀ j, j < 32 → cur[j]? = some (.int .u8 (n / 256 ^ j % 256 : Nat))) : Sl w (some ⟨g, 0, none⟩) 32 cap (leBytes n 32) := by
  refine ⟨by rw [leBytes_len], h1, h2, (fun h => by cases h), .inr ⟨g, 0, rfl, fun i hi => ?_⟩⟩
  rw [Nat.zero_add]
  refine hb.cell i ?_
  rw [h i hi]
  simp [leBytes, List.getD_eq_getElem?_getD, hi]
theorem cells_top {cur : Array Value} {r q p : Nat} (hr : r < 2 ^ 255) (hp : p < 2) (h : ∀ j, j < 32 → cur[j]? = some (.int .u8 ((r + 2 ^ 255 * q) / 256 ^ j % 256 : Nat))) :
    ∀ j, j < 32 → (cur.setIfInBounds 31 (.int .u8 (r / 256 ^ 31 + 128 * p : Nat)))[j]? = some (.int .u8 ((r + 2 ^ 255 * p) / 256 ^ j % 256 : Nat)) := fun j hj => by
  have hs : 31 < cur.size := by
    rcases Nat.lt_or_ge 31 cur.size with h' | h'
    · exact h'
    · have := h 31 (by omega); simp [Array.getElem?_eq_none h'] at this
  by_cases h31 : 31 = j
  · subst h31
    rw [Array.getElem?_setIfInBounds_self, if_pos hs, top_byte r p hr hp]
  · rw [Array.getElem?_setIfInBounds_ne h31, h j hj, low_same r q j (by omega), low_same r p j (by omega)]
set_option maxRecDepth 100000 in
theorem index_f (m : Nat) (w : World) : (Instr.index 34 (.agg (fArr (dig m))) (.int .i64 0)).run Try.prog w = .ok (.int .u64 (dig m 0 : Nat)) w := by
  rw [fArr_lit]
  simp [go_sem, Instr.index, part]
theorem or_top (c : Nat) (h : c < 128) : bits .or .u8 (c : Int) 128 = ((c + 128 : Nat) : Int) := by
  have h1 : ∀ c, c < 128 → c ||| 128 = c + 128 := by decide +kernel
  have := u8_or_nat c 128 (by omega) (by omega)
  rw [h1 c h] at this
  exact this
set_option maxRecDepth 100000 in
set_option maxHeartbeats 2000000 in
theorem ptBytes_any (x y z t : L5) (X Y Z : Nat) (hx : El x X) (hy : El y Y) (hz : El z Z) (w : World) : Calls Try.prog 12 #[.agg (pArr x y z t)] w fun e w' => e = .returned (.agg (bts (pN X Y Z))) ∧ Below w.heap.size w w' := by
  have HX := Lib.hid hx
  have HY := Lib.hid hy
  have HI := Lib.hid (fun w : World => inv_fi z Z w hz)
  have hal := P25_255 (fm_lt Y (fi Z))
  unfold pN
  obtain ⟨a, ha⟩ : ∃ a, a = fm Y (fi Z) := ⟨_, rfl⟩
  obtain ⟨b, hb⟩ : ∃ b, b = fm X (fi Z) := ⟨_, rfl⟩
  rw [← ha] at hal ⊢
  rw [← hb]
  have HA := Lib.hid hal
  have HAE := Lib.hid ha
  have HBE := Lib.hid hb
  clear hx hy hz hal ha hb
  go_enter Try.func12, Try.ntmps12
  go_upto_region 1 with fail
  have hP : Box ((w.alloc (.cells (pArr x y z t) 29)).alloc (.cells (Array.replicate 32 (Value.int .u8 0)) 39)) w.heap.size 29 (pArr x y z t) := ((Box.new w 29 (pArr x y z t)).alloc (.cells (Array.replicate 32 (Value.int .u8 0)) 39))
  have lP : w.heap.size ≤ w.heap.size := by omega
  have hR : Box ((w.alloc (.cells (pArr x y z t) 29)).alloc (.cells (Array.replicate 32 (Value.int .u8 0)) 39)) (w.heap.size + 1) 39 (Array.replicate 32 (Value.int .u8 0)) := by
    have := (Box.new (w.alloc (.cells (pArr x y z t) 29)) 39 (Array.replicate 32 (Value.int .u8 0)))
    simp only [World.size_alloc] at this
    exact this
  have lR : w.heap.size ≤ (w.heap.size + 1) := by omega
  have n_P_R : w.heap.size ≠ (w.heap.size + 1) := by omega
  have n_R_P : (w.heap.size + 1) ≠ w.heap.size := by omega
  have hB : Below w.heap.size w ((w.alloc (.cells (pArr x y z t) 29)).alloc (.cells (Array.replicate 32 (Value.int .u8 0)) 39)) := (((Below.refl w.heap.size w).alloc (by simp; try omega) (.cells (pArr x y z t) 29)).alloc (by simp; try omega) (.cells (Array.replicate 32 (Value.int .u8 0)) 39))
  have hS := hB.size
  change Code.wp _ _ _ _ ((w.alloc (.cells (pArr x y z t) 29)).alloc (.cells (Array.replicate 32 (Value.int .u8 0)) 39))
  generalize ((w.alloc (.cells (pArr x y z t) 29)).alloc (.cells (Array.replicate 32 (Value.int .u8 0)) 39)) = v0 at *
  go_step
  refine wpList_value rfl (.pointer (some ⟨w.heap.size, 10, none⟩)) (by simp [go_sem]) ?_
  simp only [Act.put, List.setIfInBounds_toArray, List.set_cons_zero, List.set_cons_succ]
  refine wpList_value rfl (.agg (gArr z.at)) (run_load_mid rfl (pt_z hP) (by rfl) Try.underlying27 rfl (by rw [gArr_size]; kernel_rfl)) ?_
  simp only [Act.put, List.setIfInBounds_toArray, List.set_cons_zero, List.set_cons_succ]
  refine wpList_enterR rfl 34 #[.agg (gArr z.at)] (by simp [go_sem]) _ (HI.out _) ?_
  rintro e v1 ⟨i, rfl, hi, bv1⟩
  refine ⟨_, rfl, ?_⟩
  simp only [Act.put, List.setIfInBounds_toArray, List.set_cons_zero, List.set_cons_succ]
  replace hP := hP.after bv1
  replace hR := hR.after bv1
  replace hB := hB.trans (bv1.mono hS)
  replace hS := Nat.le_trans hS bv1.size
  clear bv1
  have HEI := Lib.hid hi
  clear hi
  refine wpList_new rfl 27 rfl #[.int .u64 0, .int .u64 0, .int .u64 0, .int .u64 0, .int .u64 0] (by intro w; simp [go_sem]) ?_
  intro gI v2 hI lI bv2
  simp only [Act.put, List.setIfInBounds_toArray, List.set_cons_zero, List.set_cons_succ]
  have n_P_I := hP.before lI
  have n_I_P := hP.behind lI
  have n_R_I := hR.before lI
  have n_I_R := hR.behind lI
  replace lI := Nat.le_trans hS lI
  replace hP := hP.after bv2
  replace hR := hR.after bv2
  replace hB := hB.trans (bv2.mono hS)
  replace hS := Nat.le_trans hS bv2.size
  clear bv2
  refine wpList_store_box (cells := gArr i.at) rfl 27 (.tmp 3) (.tmp 7) rfl hI (by rfl) (by rfl) (by rw [gArr_size]; rfl) (by rw [gArr_size]; kernel_rfl) (gArr_one _) ?_
  intro v3 hI_ stv3
  simp only [Act.put]
  replace hP := stv3.box hP n_P_I
  replace hR := stv3.box hR n_R_I
  replace hB := stv3.below w.heap.size w lI hB
  replace hS := Nat.le_trans hS (Nat.le_of_eq stv3.size.symm)
  clear hI stv3
  have hI := hI_
  clear hI_
  have HMY := Lib.hid (fun w : World => mul_el HY.out HEI.out w)
  have HBY := Lib.hid (fun w : World => fbytes (elM HY.out HEI.out) w)
  have HMX := Lib.hid (fun w : World => mul_el HX.out HEI.out w)
  have HOD := Lib.hid (fun w : World => odd_el (elM HX.out HEI.out) w)
  rw [← HAE.out] at HBY
  rw [← HBE.out] at HOD
  go_upto_region 2 with fail
  go_step
  refine wpList_value rfl (.pointer (some ⟨w.heap.size, 5, none⟩)) (by simp [go_sem]) ?_
  simp only [Act.put, List.setIfInBounds_toArray, List.set_cons_zero, List.set_cons_succ]
  refine wpList_value rfl (.agg (gArr y.at)) (run_load_mid rfl (pt_y hP) (by rfl) Try.underlying27 rfl (by rw [gArr_size]; kernel_rfl)) ?_
  simp only [Act.put, List.setIfInBounds_toArray, List.set_cons_zero, List.set_cons_succ]
  refine wpList_load_box rfl 27 _ rfl hI (by rfl) Try.underlying27 rfl (by rw [gArr_size]; kernel_rfl) ?_
  simp only [Act.put, List.setIfInBounds_toArray, List.set_cons_zero, List.set_cons_succ]
  refine wpList_made_call rfl 30 #[.agg (gArr y.at), .agg (gArr i.at)] (by simp [go_sem]) _ (HMY.out _) ?_
  intro v4 bv4
  simp only [Act.put, List.setIfInBounds_toArray, List.set_cons_zero, List.set_cons_succ]
  replace hP := hP.after bv4
  replace hR := hR.after bv4
  replace hI := hI.after bv4
  replace hB := hB.trans (bv4.mono hS)
  replace hS := Nat.le_trans hS bv4.size
  clear bv4
  refine wpList_made_call rfl 41 #[.agg (gArr (y.mul i).at)] (by simp [go_sem]) _ (HBY.out _) ?_
  intro v5 bv5
  simp only [Act.put, List.setIfInBounds_toArray, List.set_cons_zero, List.set_cons_succ]
  replace hP := hP.after bv5
  replace hR := hR.after bv5
  replace hI := hI.after bv5
  replace hB := hB.trans (bv5.mono hS)
  replace hS := Nat.le_trans hS bv5.size
  clear bv5
  refine wpList_new rfl 39 rfl (Array.replicate 32 (Value.int .u8 0)) (by intro w; simp [go_sem]; rfl) ?_
  intro gO v6 hO lO bv6
  simp only [Act.put, List.setIfInBounds_toArray, List.set_cons_zero, List.set_cons_succ]
  have n_P_O := hP.before lO
  have n_O_P := hP.behind lO
  have n_R_O := hR.before lO
  have n_O_R := hR.behind lO
  have n_I_O := hI.before lO
  have n_O_I := hI.behind lO
  replace lO := Nat.le_trans hS lO
  replace hP := hP.after bv6
  replace hR := hR.after bv6
  replace hI := hI.after bv6
  replace hB := hB.trans (bv6.mono hS)
  replace hS := Nat.le_trans hS bv6.size
  clear bv6
  refine wpList_store_box (cells := bts a) rfl 39 (.tmp 4) (.tmp 12) rfl hO (by rfl) (by rfl) (by rw [bts_size]; rfl) (by rw [bts_size]; kernel_rfl) (bts_one _) ?_
  intro v7 hO_ stv7
  simp only [Act.put]
  replace hP := stv7.box hP n_P_O
  replace hR := stv7.box hR n_R_O
  replace hI := stv7.box hI n_I_O
  replace hB := stv7.below w.heap.size w lO hB
  replace hS := Nat.le_trans hS (Nat.le_of_eq stv7.size.symm)
  clear hO stv7
  have hO := hO_
  clear hO_
  go_upto_region 3 with fail
  go_step
  refine wpList_value rfl (.pointer (some ⟨w.heap.size, 0, none⟩)) (by simp [go_sem]) ?_
  simp only [Act.put, List.setIfInBounds_toArray, List.set_cons_zero, List.set_cons_succ]
  refine wpList_value rfl (.agg (gArr x.at)) (run_load_mid rfl (pt_x hP) (by rfl) Try.underlying27 rfl (by rw [gArr_size]; kernel_rfl)) ?_
  simp only [Act.put, List.setIfInBounds_toArray, List.set_cons_zero, List.set_cons_succ]
  refine wpList_load_box rfl 27 _ rfl hI (by rfl) Try.underlying27 rfl (by rw [gArr_size]; kernel_rfl) ?_
  simp only [Act.put, List.setIfInBounds_toArray, List.set_cons_zero, List.set_cons_succ]
  refine wpList_made_call rfl 30 #[.agg (gArr x.at), .agg (gArr i.at)] (by simp [go_sem]) _ (HMX.out _) ?_
  intro v8 bv8
  simp only [Act.put, List.setIfInBounds_toArray, List.set_cons_zero, List.set_cons_succ]
  replace hP := hP.after bv8
  replace hR := hR.after bv8
  replace hI := hI.after bv8
  replace hO := hO.after bv8
  replace hB := hB.trans (bv8.mono hS)
  replace hS := Nat.le_trans hS bv8.size
  clear bv8
  refine wpList_made_call rfl 42 #[.agg (gArr (x.mul i).at)] (by simp [go_sem]) _ (HOD.out _) ?_
  intro v9 bv9
  simp only [Act.put, List.setIfInBounds_toArray, List.set_cons_zero, List.set_cons_succ]
  replace hP := hP.after bv9
  replace hR := hR.after bv9
  replace hI := hI.after bv9
  replace hO := hO.after bv9
  replace hB := hB.trans (bv9.mono hS)
  replace hS := Nat.le_trans hS bv9.size
  clear bv9
  clear hP hI
  by_cases hb : b % 2 = 1
  · rw [show (b % 2 == 1) = true by simp [hb]]
    have HN : Hid (a + 2 ^ 255 * (b % 2) = a + 2 ^ 255 * 1) := Lib.hid (by rw [hb])
    have x31 := hO.cell 31 (bts_get a 31 (by omega))
    have f31 := hO.frozen 31
    have hc := top_low a HA.out
    have hset := bts_set a 0 1 HA.out (by omega)
    rw [Nat.mod_eq_of_lt (show a / 256 ^ 31 < 256 by omega)] at x31
    rw [Nat.mul_zero, Nat.add_zero, Nat.mul_one] at hset
    have m4 := or_top (a / 256 ^ 31) hc
    generalize a / 256 ^ 31 = c at *
    obtain ⟨c2, hc2⟩ : ∃ c2, c2 = c + 128 := ⟨_, rfl⟩
    rw [← hc2] at m4 hset
    have HSET := Lib.hid hset
    have w8 : IntKind.u8.wrap (c2 : Int) = (c2 : Int) := by rw [IntKind.wrap_u8]; omega
    clear hset hc2 hb
    go_upto_region 5 with fail
    have hO2 := hO.set 31 (.int .u8 (c2 : Nat))
    rw [HSET.out] at hO2
    have hR2 := hR.far ⟨gO, 31, none⟩ (.int .u8 (c2 : Nat)) n_R_O
    have hB2 := hB.setCell (p := ⟨gO, 31, none⟩) lO (.int .u8 (c2 : Nat))
    have hS2 := hB2.size
    clear hO hR hB hS x31 f31
    change Code.wp _ _ _ _ (Go.World.setCell _ ⟨gO, 31, none⟩ (.int .u8 (c2 : Nat)))
    generalize Go.World.setCell _ ⟨gO, 31, none⟩ (.int .u8 (c2 : Nat)) = vq at *
    have hO := hO2
    have hR := hR2
    have hB := hB2
    have hS := hS2
    clear hO2 hR2 hB2 hS2
    go_upto_region 5 with fail
    go_step
    refine wpList_load_box rfl 39 _ rfl hO (by rfl) Try.underlying39 rfl (by rw [bts_size]; kernel_rfl) ?_
    simp only [Act.put, List.setIfInBounds_toArray, List.set_cons_zero, List.set_cons_succ]
    refine wpList_store_box (cells := bts (a + 2 ^ 255 * 1)) rfl 39 (.tmp 2) (.tmp 22) rfl hR (by rfl) (by rfl) (by rw [bts_size]; rfl) (by rw [bts_size]; kernel_rfl) (bts_one _) ?_
    intro v10 hR_ stv10
    simp only [Act.put]
    replace hO := stv10.box hO n_O_R
    replace hB := stv10.below w.heap.size w lR hB
    replace hS := Nat.le_trans hS (Nat.le_of_eq stv10.size.symm)
    clear hR stv10
    have hR := hR_
    clear hR_
    obtain ⟨G, hG⟩ : ∃ G, G = bts (a + 2 ^ 255 * 1) := ⟨_, rfl⟩
    rw [← hG] at hR
    have HGS := Lib.hid (show G.size = 32 by rw [hG]; exact bts_size _)
    have HG := Lib.hid hG
    clear hG hO
    go_wp2_with fail
    exact bodyPost_ret (v := .agg G) (box_result rfl _ _ (by rfl) hR Try.underlying39 rfl (by rw [HGS.out]; kernel_rfl)) rfl ⟨by rw [HG.out, HN.out], hB⟩
  · rw [show (b % 2 == 1) = false by simp [hb]]
    have HN : Hid (a + 2 ^ 255 * (b % 2) = a) := Lib.hid (by rw [show b % 2 = 0 by omega, Nat.mul_zero, Nat.add_zero])
    clear hb
    go_upto_region 5 with fail
    go_step
    refine wpList_load_box rfl 39 _ rfl hO (by rfl) Try.underlying39 rfl (by rw [bts_size]; kernel_rfl) ?_
    simp only [Act.put, List.setIfInBounds_toArray, List.set_cons_zero, List.set_cons_succ]
    refine wpList_store_box (cells := bts a) rfl 39 (.tmp 2) (.tmp 22) rfl hR (by rfl) (by rfl) (by rw [bts_size]; rfl) (by rw [bts_size]; kernel_rfl) (bts_one _) ?_
    intro v10 hR_ stv10
    simp only [Act.put]
    replace hO := stv10.box hO n_O_R
    replace hB := stv10.below w.heap.size w lR hB
    replace hS := Nat.le_trans hS (Nat.le_of_eq stv10.size.symm)
    clear hR stv10
    have hR := hR_
    clear hR_
    obtain ⟨G, hG⟩ : ∃ G, G = bts a := ⟨_, rfl⟩
    rw [← hG] at hR
    have HGS := Lib.hid (show G.size = 32 by rw [hG]; exact bts_size _)
    have HG := Lib.hid hG
    clear hG hO
    go_wp2_with fail
    exact bodyPost_ret (v := .agg G) (box_result rfl _ _ (by rfl) hR Try.underlying39 rfl (by rw [HGS.out]; kernel_rfl)) rfl ⟨by rw [HG.out, HN.out], hB⟩
set_option maxRecDepth 100000 in
set_option maxHeartbeats 2000000 in
theorem refPtBytes_any (u v n : Nat) (hu : u < P25) (hv : v < P25) (hn : n < P25) (w : World) : Calls Try.prog 43 #[.agg (qArr u v n)] w (RetSl (leBytes (pN u v n) 32) w) := by
  have HI := Lib.hid (rInv n hn)
  have HMY := Lib.hid (rMul v (fi n) hv (fi_lt _))
  have HMX := Lib.hid (rMul u (fi n) hu (fi_lt _))
  have HA := Lib.hid (P25_255 (fm_lt v (fi n)))
  have HBY := Lib.hid (fun w : World => refBytes_own (fm v (fi n)) w)
  have hb2 : ((dig (fm u (fi n)) 0 : Nat) : Int).tmod 2 = ((fm u (fi n) % 2 : Nat) : Int) := by
    rw [Int.tmod_eq_emod_of_nonneg (by omega)]
    unfold dig
    omega
  have HB2 := Lib.hid hb2
  unfold pN
  clear hu hv hn hb2
  generalize fi n = i at *
  generalize fm v i = a at *
  generalize fm u i = b at *
  go_enter Try.func43, Try.ntmps43
  go_upto_region 1 with fail
  have hP : Box (w.alloc (.cells (qArr u v n) 36)) w.heap.size 36 (qArr u v n) := (Box.new w 36 (qArr u v n))
  have lP : w.heap.size ≤ w.heap.size := by omega
  have hB : Below w.heap.size w (w.alloc (.cells (qArr u v n) 36)) := ((Below.refl w.heap.size w).alloc (by simp; try omega) (.cells (qArr u v n) 36))
  have hS := hB.size
  change Code.wp _ _ _ _ (w.alloc (.cells (qArr u v n) 36))
  generalize (w.alloc (.cells (qArr u v n) 36)) = v0 at *
  go_step
  refine wpList_value rfl (.pointer (some ⟨w.heap.size, 32, none⟩)) (by simp [go_sem]) ?_
  simp only [Act.put, List.setIfInBounds_toArray, List.set_cons_zero, List.set_cons_succ]
  refine wpList_value rfl (.agg (fArr (dig n))) (run_load_mid rfl (q_z hP) (by rfl) Try.underlying34 rfl (by rw [fArr_size]; kernel_rfl)) ?_
  simp only [Act.put, List.setIfInBounds_toArray, List.set_cons_zero, List.set_cons_succ]
  refine wpList_made_call rfl 49 #[.agg (fArr (dig n))] (by simp [go_sem]) _ (HI.out _) ?_
  intro v1 bv1
  simp only [Act.put, List.setIfInBounds_toArray, List.set_cons_zero, List.set_cons_succ]
  replace hP := hP.after bv1
  replace hB := hB.trans (bv1.mono hS)
  replace hS := Nat.le_trans hS bv1.size
  clear bv1
  refine wpList_new rfl 34 rfl (Array.replicate 16 (Value.int .u64 0)) (by intro w; simp [go_sem]; rfl) ?_
  intro gI v2 hI lI bv2
  simp only [Act.put, List.setIfInBounds_toArray, List.set_cons_zero, List.set_cons_succ]
  have n_P_I := hP.before lI
  have n_I_P := hP.behind lI
  replace lI := Nat.le_trans hS lI
  replace hP := hP.after bv2
  replace hB := hB.trans (bv2.mono hS)
  replace hS := Nat.le_trans hS bv2.size
  clear bv2
  refine wpList_store_box (cells := fArr (dig i)) rfl 34 (.tmp 3) (.tmp 7) rfl hI (by rfl) (by rfl) (by rw [fArr_size]; rfl) (by rw [fArr_size]; kernel_rfl) (fArr_one _) ?_
  intro v3 hI_ stv3
  simp only [Act.put]
  replace hP := stv3.box hP n_P_I
  replace hB := stv3.below w.heap.size w lI hB
  replace hS := Nat.le_trans hS (Nat.le_of_eq stv3.size.symm)
  clear hI stv3
  have hI := hI_
  clear hI_
  go_upto_region 2 with fail
  go_step
  refine wpList_value rfl (.pointer (some ⟨w.heap.size, 16, none⟩)) (by simp [go_sem]) ?_
  simp only [Act.put, List.setIfInBounds_toArray, List.set_cons_zero, List.set_cons_succ]
  refine wpList_value rfl (.agg (fArr (dig v))) (run_load_mid rfl (q_y hP) (by rfl) Try.underlying34 rfl (by rw [fArr_size]; kernel_rfl)) ?_
  simp only [Act.put, List.setIfInBounds_toArray, List.set_cons_zero, List.set_cons_succ]
  refine wpList_load_box rfl 34 _ rfl hI (by rfl) Try.underlying34 rfl (by rw [fArr_size]; kernel_rfl) ?_
  simp only [Act.put, List.setIfInBounds_toArray, List.set_cons_zero, List.set_cons_succ]
  refine wpList_made_call rfl 48 #[.agg (fArr (dig v)), .agg (fArr (dig i))] (by simp [go_sem]) _ (HMY.out _) ?_
  intro v4 bv4
  simp only [Act.put, List.setIfInBounds_toArray, List.set_cons_zero, List.set_cons_succ]
  replace hP := hP.after bv4
  replace hI := hI.after bv4
  replace hB := hB.trans (bv4.mono hS)
  replace hS := Nat.le_trans hS bv4.size
  clear bv4
  have hSb := hS
  refine wpList_enterR rfl 65 #[.agg (fArr (dig a))] (by simp [go_sem]) _ (HBY.out _) ?_
  rintro e v5 ⟨s, rfl, hown, bv5⟩
  refine ⟨_, rfl, ?_⟩
  simp only [Act.put, List.setIfInBounds_toArray, List.set_cons_zero, List.set_cons_succ]
  replace hP := hP.after bv5
  replace hI := hI.after bv5
  replace hB := hB.trans (bv5.mono hS)
  replace hS := Nat.le_trans hS bv5.size
  clear bv5
  rw [leBytes_len] at hown
  obtain ⟨gO, cap, cur, rfl, lO, hO, hcap, hmax, hcur⟩ := own_open hown
  clear hown
  replace lO : w.heap.size ≤ gO := by omega
  refine wpList_value rfl (.slice (some ⟨gO, 0, none⟩) 32 cap) (by simp [go_sem]) ?_
  simp only [Act.put, List.setIfInBounds_toArray, List.set_cons_zero, List.set_cons_succ]
  have HCUR := Lib.hid hcur
  clear hcur hSb
  go_upto_region 3 with fail
  go_step
  refine wpList_value rfl (.pointer (some ⟨w.heap.size, 0, none⟩)) (by simp [go_sem]) ?_
  simp only [Act.put, List.setIfInBounds_toArray, List.set_cons_zero, List.set_cons_succ]
  refine wpList_value rfl (.agg (fArr (dig u))) (run_load_mid rfl (q_x hP) (by rfl) Try.underlying34 rfl (by rw [fArr_size]; kernel_rfl)) ?_
  simp only [Act.put, List.setIfInBounds_toArray, List.set_cons_zero, List.set_cons_succ]
  refine wpList_load_box rfl 34 _ rfl hI (by rfl) Try.underlying34 rfl (by rw [fArr_size]; kernel_rfl) ?_
  simp only [Act.put, List.setIfInBounds_toArray, List.set_cons_zero, List.set_cons_succ]
  refine wpList_made_call rfl 48 #[.agg (fArr (dig u)), .agg (fArr (dig i))] (by simp [go_sem]) _ (HMX.out _) ?_
  intro v6 bv6
  simp only [Act.put, List.setIfInBounds_toArray, List.set_cons_zero, List.set_cons_succ]
  replace hP := hP.after bv6
  replace hI := hI.after bv6
  replace hO := hO.after bv6
  replace hB := hB.trans (bv6.mono hS)
  replace hS := Nat.le_trans hS bv6.size
  clear bv6
  clear hP hI
  refine wpList_value rfl (.int .u64 (dig b 0 : Nat)) (by simp [go_sem, index_f]) ?_
  simp only [Act.put, List.setIfInBounds_toArray, List.set_cons_zero, List.set_cons_succ]
  refine wpList_value rfl (.int .u64 (b % 2 : Nat)) (by simp [go_sem, HB2.out]) ?_
  simp only [Act.put, List.setIfInBounds_toArray, List.set_cons_zero, List.set_cons_succ]
  by_cases hb : b % 2 = 1
  · have ob : (((b % 2 : Nat) : Int) == 1) = true := by simp [hb]
    have HN : Hid (a + 2 ^ 255 * (b % 2) = a + 2 ^ 255 * 1) := Lib.hid (by rw [hb])
    have c31 := HCUR.out 31 (by omega)
    have x31 := hO.cell 31 c31
    have f31 := hO.frozen 31
    have hc := top_low a HA.out
    have hset := cells_top (q := 0) (p := 1) HA.out (by omega) (by rw [Nat.mul_zero, Nat.add_zero]; exact HCUR.out)
    rw [Nat.mod_eq_of_lt (show a / 256 ^ 31 < 256 by omega)] at x31
    clear c31
    rw [Nat.mul_one] at hset
    generalize a / 256 ^ 31 = c at *
    obtain ⟨c2, hc2⟩ : ∃ c2, c2 = c + 128 := ⟨_, rfl⟩
    rw [← hc2] at hset
    have HSET := Lib.hid hset
    have w8 : IntKind.u8.wrap ((c : Int) + 128) = (c2 : Int) := by rw [IntKind.wrap_u8]; omega
    clear hset hc2 hb
    generalize (b % 2 : Nat) = bb at *
    go_upto_region 5 with fail
    have hO2 := hO.set 31 (.int .u8 (c2 : Nat))
    have hB2 := hB.setCell (p := ⟨gO, 31, none⟩) lO (.int .u8 (c2 : Nat))
    clear hO hB hS x31 f31
    change Code.wp _ _ _ _ (Go.World.setCell _ ⟨gO, 31, none⟩ (.int .u8 (c2 : Nat)))
    generalize Go.World.setCell _ ⟨gO, 31, none⟩ (.int .u8 (c2 : Nat)) = vq at *
    have hO := hO2
    have hB := hB2
    clear hO2 hB2
    have HCUR := HSET
    go_wp2_with fail
    go_ret
    exact ⟨_, _, by rw [leBytes_len]; rfl, by rw [leBytes_len, HN.out]; exact sl_cells hO hcap hmax HCUR.out, hB⟩
  · have ob : (((b % 2 : Nat) : Int) == 1) = false := by simp; omega
    have HN : Hid (a + 2 ^ 255 * (b % 2) = a) := Lib.hid (by rw [show b % 2 = 0 by omega, Nat.mul_zero, Nat.add_zero])
    clear hb
    generalize (b % 2 : Nat) = bb at *
    go_wp2_with fail
    go_ret
    exact ⟨_, _, by rw [leBytes_len]; rfl, by rw [leBytes_len, HN.out]; exact sl_cells hO hcap hmax HCUR.out, hB⟩
end Go.Proofs.Ytpkoniebbkkmjaa

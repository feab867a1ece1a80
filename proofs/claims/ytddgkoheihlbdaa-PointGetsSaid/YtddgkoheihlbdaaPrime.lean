/- Primes: Fermat's theorem, and that 2^255 - 19 is a prime (plain). -/
namespace Go.Proofs.Ytddgkoheihlbdaa

/-- every number below it, but 0, has no factor with it in common -/
def Pr (p : Nat) : Prop := 1 < p ∧ ∀ k, 0 < k → k < p → Nat.Coprime k p

theorem dvd_of_mod {p a b : Nat} (h : a % p = b % p) : p ∣ b - a := Nat.dvd_of_mod_eq_zero (Nat.sub_mod_eq_zero_of_mod_eq h.symm)
theorem mod_of_dvd {p a b : Nat} (hab : a ≤ b) (h : p ∣ b - a) : a % p = b % p := by
  obtain ⟨k, hk⟩ := h
  have : b = a + p * k := by omega
  rw [this, Nat.add_mul_mod_self_left]
theorem cancel_mod {p a b c : Nat} (hc : Nat.Coprime c p) (h : c * a % p = c * b % p) : a % p = b % p := by
  rcases Nat.le_total a b with hab | hab
  · refine mod_of_dvd hab ((Nat.Coprime.symm hc).dvd_of_dvd_mul_left ?_)
    rw [Nat.mul_sub]
    exact dvd_of_mod h
  · refine (mod_of_dvd hab ((Nat.Coprime.symm hc).dvd_of_dvd_mul_left ?_)).symm
    rw [Nat.mul_sub]
    exact dvd_of_mod h.symm

def prod (l : List Nat) : Nat := l.foldr (· * ·) 1
theorem prod_perm {l l' : List Nat} (h : l.Perm l') : prod l = prod l' := by
  induction h with
  | nil => rfl
  | cons x _ ih => simp only [prod, List.foldr_cons] at ih ⊢; rw [ih]
  | swap x y l => simp only [prod, List.foldr_cons]; exact Nat.mul_left_comm _ _ _
  | trans _ _ ih1 ih2 => exact ih1.trans ih2
theorem prod_coprime {p : Nat} : ∀ l : List Nat, (∀ k, k ∈ l → Nat.Coprime k p) → Nat.Coprime (prod l) p
  | [], _ => by simp [prod]
  | x :: l, h => by
    have := prod_coprime l fun k hk => h k (List.mem_cons_of_mem _ hk)
    simp only [prod, List.foldr_cons] at this ⊢
    exact Nat.Coprime.mul_left (h x List.mem_cons_self) this
theorem prod_map {p a : Nat} : ∀ l : List Nat, prod (l.map fun k => a * k % p) % p = a ^ l.length * prod l % p
  | [] => by simp [prod]
  | x :: l => by
    have ih := prod_map (p := p) (a := a) l
    simp only [prod, List.map_cons, List.foldr_cons, List.length_cons] at ih ⊢
    rw [Nat.mul_mod, ih, Nat.mod_mod, ← Nat.mul_mod, Nat.pow_succ]
    congr 1
    simp only [Nat.mul_assoc, Nat.mul_comm, Nat.mul_left_comm]

/-- Fermat's theorem -/
theorem fermat {p a : Nat} (hp : Pr p) (ha : Nat.Coprime a p) : a ^ (p - 1) % p = 1 := by
  obtain ⟨h1, hc⟩ := hp
  obtain ⟨l, hl⟩ : ∃ l, l = List.range' 1 (p - 1) := ⟨_, rfl⟩
  have hmem : ∀ k, k ∈ l ↔ 0 < k ∧ k < p := fun k => by rw [hl, List.mem_range'_1]; omega
  have hnd : l.Nodup := by rw [hl]; exact List.nodup_range'
  have hlen : l.length = p - 1 := by rw [hl]; simp
  have hnd' : (l.map fun k => a * k % p).Nodup := by
    rw [List.nodup_iff_pairwise_ne] at hnd ⊢
    rw [List.pairwise_map]
    refine List.Pairwise.imp_of_mem ?_ hnd
    intro x y hx hy hne h
    have := cancel_mod ha h
    rw [Nat.mod_eq_of_lt ((hmem x).1 hx).2, Nat.mod_eq_of_lt ((hmem y).1 hy).2] at this
    exact hne this
  have hsub : ∀ y, y ∈ (l.map fun k => a * k % p) → y ∈ l := fun y hy => by
    obtain ⟨k, hk, rfl⟩ := List.mem_map.1 hy
    obtain ⟨k1, k2⟩ := (hmem k).1 hk
    refine (hmem _).2 ⟨Nat.pos_of_ne_zero fun h0 => ?_, Nat.mod_lt _ (by omega)⟩
    have hd : p ∣ a * k := Nat.dvd_of_mod_eq_zero h0
    have : p ∣ k := (Nat.Coprime.symm ha).dvd_of_dvd_mul_left hd
    have := Nat.le_of_dvd k1 this
    omega
  have hperm : (l.map fun k => a * k % p).Perm l := by
    refine (List.perm_ext_iff_of_nodup hnd' hnd).2 fun y => ⟨hsub y, fun hy => ?_⟩
    refine Classical.byContradiction fun hn => ?_
    have hnd2 : (y :: l.map fun k => a * k % p).Nodup := List.nodup_cons.2 ⟨hn, hnd'⟩
    have := hnd2.length_le_of_subset (l₂ := l) fun z hz => by
      rcases List.mem_cons.1 hz with rfl | hz
      · exact hy
      · exact hsub z hz
    simp at this
    omega
  have e := prod_map (p := p) (a := a) l
  rw [prod_perm hperm, hlen] at e
  have hcop := prod_coprime l fun k hk => hc k ((hmem k).1 hk).1 ((hmem k).1 hk).2
  have h2 : prod l * 1 % p = prod l * a ^ (p - 1) % p := by rw [Nat.mul_one, e, Nat.mul_comm]
  have h3 := cancel_mod hcop h2
  rw [← h3, Nat.mod_eq_of_lt h1]

/-- a number's smallest factor is a prime -/
theorem min_factor {n : Nat} (h : 1 < n) : ∃ d, Pr d ∧ d ∣ n ∧ ∀ e, 1 < e → e ∣ n → d ≤ e := by
  have : ∀ m, (∃ e, e ≤ m ∧ 1 < e ∧ e ∣ n) → ∃ d, 1 < d ∧ d ∣ n ∧ ∀ e, 1 < e → e ∣ n → d ≤ e := by
    intro m
    induction m with
    | zero => rintro ⟨e, h1, h2, _⟩; omega
    | succ m ih =>
      rintro ⟨e, h1, h2, h3⟩
      by_cases hex : ∃ e, e ≤ m ∧ 1 < e ∧ e ∣ n
      · exact ih hex
      · refine ⟨e, h2, h3, fun f hf hfn => ?_⟩
        rcases Nat.lt_or_ge f e with h | h
        · exact absurd ⟨f, by omega, hf, hfn⟩ hex
        · exact h
  obtain ⟨d, h1, h2, h3⟩ := this n ⟨n, Nat.le_refl _, h, Nat.dvd_refl _⟩
  refine ⟨d, ⟨h1, fun k hk hkd => ?_⟩, h2, h3⟩
  have g1 : Nat.gcd k d ∣ d := Nat.gcd_dvd_right _ _
  have g2 : Nat.gcd k d ∣ k := Nat.gcd_dvd_left _ _
  have g0 : 0 < Nat.gcd k d := Nat.gcd_pos_of_pos_left _ hk
  rcases Nat.lt_or_ge 1 (Nat.gcd k d) with g | g
  · have := h3 _ g (Nat.dvd_trans g1 h2)
    have := Nat.le_of_dvd hk g2
    omega
  · show Nat.gcd k d = 1
    omega

/-- a number whose smallest factor is not below its root is a prime -/
theorem pr_of_min {n : Nat} (h : 1 < n) (hd : ∀ d, Pr d → d ∣ n → n < d * d) : Pr n := by
  refine ⟨h, fun k hk hkn => ?_⟩
  refine Classical.byContradiction fun hc => ?_
  have g0 : 0 < Nat.gcd k n := Nat.gcd_pos_of_pos_left _ hk
  have g1 : 1 < Nat.gcd k n := by
    rcases Nat.lt_or_ge 1 (Nat.gcd k n) with g | g
    · exact g
    · exact absurd (show Nat.gcd k n = 1 by omega) hc
  obtain ⟨m, hm⟩ := Nat.gcd_dvd_right k n
  have gl := Nat.le_of_dvd hk (Nat.gcd_dvd_left k n)
  have m1 : 1 < m := by
    rcases Nat.lt_or_ge 1 m with g | g
    · exact g
    · have : m = 0 ∨ m = 1 := by omega
      rcases this with rfl | rfl <;> omega
  obtain ⟨d, hp, hdn, hmin⟩ := min_factor h
  have h1 := hmin _ g1 (Nat.gcd_dvd_right k n)
  have h2 := hmin m m1 ⟨Nat.gcd k n, by rw [Nat.mul_comm]; exact hm⟩
  have h3 := hd d hp hdn
  have h4 : d * d ≤ Nat.gcd k n * m := Nat.mul_le_mul h1 h2
  omega

theorem pow_mod_one {p a : Nat} (h : a % p = 1 % p) (k : Nat) : a ^ k % p = 1 % p := by
  rw [Nat.pow_mod, h, ← Nat.pow_mod, Nat.one_pow]
/-- two powers that are 1: so is that to their common factor -/
theorem pow_gcd {p a : Nat} : ∀ m n : Nat, a ^ m % p = 1 % p → a ^ n % p = 1 % p → a ^ (Nat.gcd m n) % p = 1 % p := by
  intro m n
  induction m, n using Nat.gcd.induction with
  | H0 n => intro _ h; rwa [Nat.gcd_zero_left]
  | H1 m n hm ih =>
    intro h1 h2
    rw [Nat.gcd_rec]
    refine ih ?_ h1
    have e : a ^ n = (a ^ m) ^ (n / m) * a ^ (n % m) := by rw [← Nat.pow_mul, ← Nat.pow_add, Nat.div_add_mod]
    rw [e, Nat.mul_mod, pow_mod_one h1] at h2
    rw [← Nat.mul_mod, Nat.one_mul] at h2
    exact h2

/-- Pocklington: a prime factor of n is 1 more than a multiple of q -/
theorem pock {n q m a d : Nat} (hq : Pr q) (hn : 1 < n) (hm : n - 1 = q * m) (h1 : a ^ (n - 1) % n = 1) (h2 : Nat.Coprime (a ^ m % n + (n - 1)) n) (hd : Pr d) (hdn : d ∣ n) : q ∣ d - 1 := by
  have hA : (a ^ m) ^ q % d = 1 % d := by
    rw [← Nat.pow_mul, Nat.mul_comm, ← hm, ← Nat.mod_mod_of_dvd _ hdn, h1]
  have hcop : Nat.Coprime (a ^ m) d := by
    have h0 : a ^ (n - 1) = a ^ m * a ^ (n - 1 - m) := by
      rw [← Nat.pow_add]; congr 1
      have : m ≤ n - 1 := by rw [hm]; exact Nat.le_mul_of_pos_left _ (by have := hq.1; omega)
      omega
    show Nat.gcd (a ^ m) d = 1
    have g1 : Nat.gcd (a ^ m) d ∣ a ^ (n - 1) := Nat.dvd_trans (Nat.gcd_dvd_left _ _) ⟨_, h0⟩
    have g2 : Nat.gcd (a ^ m) d ∣ n := Nat.dvd_trans (Nat.gcd_dvd_right _ _) hdn
    have g3 : Nat.gcd (a ^ m) d ∣ a ^ (n - 1) % n := (Nat.dvd_mod_iff g2).2 g1
    rw [h1] at g3
    exact Nat.dvd_one.1 g3
  have hF := fermat hd hcop
  have hF' : (a ^ m) ^ (d - 1) % d = 1 % d := by rw [hF, Nat.mod_eq_of_lt hd.1]
  have hg := pow_gcd q (d - 1) hA hF'
  refine Classical.byContradiction fun hnd => ?_
  have hgq : Nat.gcd q (d - 1) = 1 := by
    have g1 : Nat.gcd q (d - 1) ∣ q := Nat.gcd_dvd_left _ _
    have g2 : Nat.gcd q (d - 1) ∣ d - 1 := Nat.gcd_dvd_right _ _
    have g0 : 0 < Nat.gcd q (d - 1) := Nat.gcd_pos_of_pos_left _ (by have := hq.1; omega)
    rcases Nat.lt_or_ge (Nat.gcd q (d - 1)) q with g | g
    · have := hq.2 _ g0 g
      have e : Nat.gcd (Nat.gcd q (d - 1)) q = Nat.gcd q (d - 1) := Nat.gcd_eq_left g1
      rw [← e]; exact this
    · have : Nat.gcd q (d - 1) = q := Nat.le_antisymm (Nat.le_of_dvd (by have := hq.1; omega) g1) g
      rw [this] at g2
      exact absurd g2 hnd
  rw [hgq, Nat.pow_one] at hg
  -- d divides a^m - 1 and n
  have hd1 : (a ^ m % n + (n - 1)) % d = 0 := by
    have e1 : a ^ m % n % d = 1 % d := by rw [Nat.mod_mod_of_dvd _ hdn, hg]
    have e2 : (a ^ m % n + (n - 1)) % d = (1 + (n - 1)) % d := by rw [Nat.add_mod, e1, ← Nat.add_mod]
    rw [e2, show 1 + (n - 1) = n by omega]
    exact Nat.mod_eq_zero_of_dvd hdn
  have h5 : d ∣ Nat.gcd (a ^ m % n + (n - 1)) n := Nat.dvd_gcd (Nat.dvd_of_mod_eq_zero hd1) hdn
  rw [show Nat.gcd (a ^ m % n + (n - 1)) n = 1 from h2] at h5
  have := Nat.dvd_one.1 h5
  have := hd.1
  omega

/-- a power's rest, by squaring -/
def mp (n : Nat) : Nat → Nat → Nat → Nat
  | 0, _, _ => 1 % n
  | f + 1, a, e => if e = 0 then 1 % n else if e % 2 = 1 then a * mp n f (a * a % n) (e / 2) % n else mp n f (a * a % n) (e / 2)
theorem mp_eq (n : Nat) : ∀ f a e, e < 2 ^ f → mp n f a e = a ^ e % n
  | 0, a, e, h => by
    have : e = 0 := by simpa using h
    subst this
    simp [mp]
  | f + 1, a, e, h => by
    rw [Nat.pow_succ] at h
    have ih := mp_eq n f (a * a % n) (e / 2) (by omega)
    have e2 : (a * a % n) ^ (e / 2) % n = a ^ (2 * (e / 2)) % n := by
      rw [← Nat.pow_mod, Nat.pow_mul, Nat.pow_two]
    unfold mp
    by_cases h0 : e = 0
    · rw [if_pos h0, h0, Nat.pow_zero]
    · rw [if_neg h0]
      by_cases h1 : e % 2 = 1
      · rw [if_pos h1, ih, e2, Nat.mul_mod, Nat.mod_mod, ← Nat.mul_mod]
        congr 1
        rw [Nat.mul_comm, ← Nat.pow_succ]
        congr 1; omega
      · rw [if_neg h1, ih, e2]
        congr 2; omega

theorem pock_mp {n q m a d : Nat} (f : Nat) (hf : n < 2 ^ f) (hq : Pr q) (hn : 1 < n) (hm : n - 1 = q * m) (h1 : mp n f a (n - 1) = 1) (h2 : Nat.gcd (mp n f a m + (n - 1)) n = 1) (hd : Pr d) (hdn : d ∣ n) : q ∣ d - 1 := by
  have hmn : m ≤ n - 1 := by rw [hm]; exact Nat.le_mul_of_pos_left _ (by have := hq.1; omega)
  rw [mp_eq n f a (n - 1) (by omega)] at h1
  rw [mp_eq n f a m (by omega)] at h2
  exact pock hq hn hm h1 h2 hd hdn

theorem pr_small (n k : Nat) (h : 1 < n) (ht : ((List.range k).all fun d => decide (d ≤ 1) || n % d != 0) = true) (hk : n < k * k) : Pr n := by
  refine pr_of_min h fun d hd hdn => ?_
  rcases Nat.lt_or_ge d k with hlt | hge
  · have := List.all_eq_true.1 ht d (List.mem_range.2 hlt)
    have h0 := Nat.mod_eq_zero_of_dvd hdn
    have h1 := hd.1
    simp [h0] at this
    omega
  · exact Nat.lt_of_lt_of_le hk (Nat.mul_le_mul hge hge)

theorem pr_two {n q1 q2 : Nat} (h : 1 < n) (hc : Nat.gcd q1 q2 = 1) (hq : n < q1 * q2 * (q1 * q2)) (h1 : ∀ d, Pr d → d ∣ n → q1 ∣ d - 1) (h2 : ∀ d, Pr d → d ∣ n → q2 ∣ d - 1) : Pr n := by
  refine pr_of_min h fun d hd hdn => ?_
  have h3 : q1 * q2 ∣ d - 1 := Nat.Coprime.mul_dvd_of_dvd_of_dvd hc (h1 d hd hdn) (h2 d hd hdn)
  have h4 := Nat.le_of_dvd (by have := hd.1; omega) h3
  have h5 : q1 * q2 ≤ d := by omega
  exact Nat.lt_of_lt_of_le hq (Nat.mul_le_mul h5 h5)

theorem pr_u : Pr 8574133 := pr_small 8574133 2929 (by decide) (by decide +kernel) (by decide)
theorem pr_127 : Pr 127 := pr_small 127 12 (by decide) (by decide +kernel) (by decide)
theorem pr_75707 : Pr 75707 := pr_small 75707 276 (by decide) (by decide +kernel) (by decide)
theorem pr_1923133 : Pr 1923133 := pr_small 1923133 1387 (by decide) (by decide +kernel) (by decide)
theorem pr_t : Pr 1919519569386763 :=
  pr_two (q1 := 8574133) (q2 := 127) (by decide) (by decide +kernel) (by decide +kernel)
    (fun d hd hdn => pock_mp (m := 223873314) (a := 2) 256 (by decide +kernel) pr_u (by decide) (by decide +kernel) (by decide +kernel) (by decide +kernel) hd hdn)
    (fun d hd hdn => pock_mp (m := 15114327318006) (a := 2) 256 (by decide +kernel) pr_127 (by decide) (by decide +kernel) (by decide +kernel) (by decide +kernel) hd hdn)
theorem pr_r : Pr 75445702479781427272750846543864801 :=
  pr_two (q1 := 1919519569386763) (q2 := 75707) (by decide) (by decide +kernel) (by decide +kernel)
    (fun d hd hdn => pock_mp (m := 39304471641247389600) (a := 2) 256 (by decide +kernel) pr_t (by decide) (by decide +kernel) (by decide +kernel) (by decide +kernel) hd hdn)
    (fun d hd hdn => pock_mp (m := 996548568557483816196003626400) (a := 2) 256 (by decide +kernel) pr_75707 (by decide) (by decide +kernel) (by decide +kernel) (by decide +kernel) hd hdn)
theorem pr_q : Pr 74058212732561358302231226437062788676166966415465897661863160754340907 :=
  pr_two (q1 := 75445702479781427272750846543864801) (q2 := 1923133) (by decide) (by decide +kernel) (by decide +kernel)
    (fun d hd hdn => pock_mp (m := 981609426360740691344999861639072106) (a := 2) 256 (by decide +kernel) pr_r (by decide) (by decide +kernel) (by decide +kernel) (by decide +kernel) hd hdn)
    (fun d hd hdn => pock_mp (m := 38509147694185143878364744631319200843710219946028640589009268082) (a := 2) 256 (by decide +kernel) pr_1923133 (by decide) (by decide +kernel) (by decide +kernel) (by decide +kernel) hd hdn)
/-- 2^255 - 19 is a prime -/
theorem pr_p : Pr 57896044618658097711785492504343953926634992332820282019728792003956564819949 := by
  refine pr_of_min (by decide) fun d hd hdn => ?_
  have h3 : 74058212732561358302231226437062788676166966415465897661863160754340907 ∣ d - 1 := pock_mp (m := 781764) (a := 2) 256 (by decide +kernel) pr_q (by decide) (by decide +kernel) (by decide +kernel) (by decide +kernel) hd hdn
  have h4 := Nat.le_of_dvd (by have := hd.1; omega) h3
  have h5 : 74058212732561358302231226437062788676166966415465897661863160754340907 ≤ d := by omega
  exact Nat.lt_of_lt_of_le (by decide +kernel) (Nat.mul_le_mul h5 h5)
end Go.Proofs.Ytddgkoheihlbdaa

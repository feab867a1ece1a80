/- Dates: what a date's text says; texts stand as their numbers. -/
import Derived.Test.YteekdcdjkiclhaaDatePut
import Derived.Test.YteekdcdjkiclhaaDate2
import Derived.Laws.Strings
namespace Go.Proofs.Yteekdcdjkiclhaa

theorem digC_isD (n s : Nat) : isD (digC n s) = true := by
  rw [isD_iff]; unfold digC; simp; omega
theorem dg_digC (n s : Nat) : dg (digC n s) = n / 10 ^ s % 10 := by
  unfold dg digC; simp; omega
theorem digC_of (c : UInt8) (h : isD c = true) (n s : Nat) (hn : n / 10 ^ s % 10 = dg c) : digC n s = c := by
  have := (isD_iff c).1 h
  apply UInt8.toNat_inj.1
  unfold digC; rw [hn]; unfold dg; simp; omega
theorem fmtD_eq (y m d r : Nat) : fmtD y m d r = [digC y 3, digC y 2, digC y 1, digC y 0, 45, digC m 1, digC m 0, 45, digC d 1, digC d 0, 95, digC (r / 3600) 1, digC (r / 3600) 0, 58, digC (r / 60 % 60) 1, digC (r / 60 % 60) 0, 58, digC (r % 60) 1, digC (r % 60) 0] := rfl

/-- the fields of a date -/
def Fld (l : List UInt8) (y m d r : Nat) : Prop :=
  l = fmtD y m d r ∧ y ≤ 9999 ∧ 1 ≤ m ∧ m ≤ 12 ∧ 1 ≤ d ∧ (d : Int) ≤ dim y m ∧ r < 86400

theorem two2_dig2 (n : Nat) (h : n ≤ 99) : two2 (digC n 1) (digC n 0) = n := by unfold two2; rw [dg_digC, dg_digC]; simp; omega
theorem clock_fmt (r : Nat) (h : r < 86400) : clockOk [digC (r / 3600) 1, digC (r / 3600) 0, 58, digC (r / 60 % 60) 1, digC (r / 60 % 60) 0, 58, digC (r % 60) 1, digC (r % 60) 0] = true ∧
    clockN [digC (r / 3600) 1, digC (r / 3600) 0, 58, digC (r / 60 % 60) 1, digC (r / 60 % 60) 0, 58, digC (r % 60) 1, digC (r % 60) 0] = r := by
  have h1 := two2_dig2 (r / 3600) (by omega)
  have h2 := two2_dig2 (r / 60 % 60) (by omega)
  have h3 := two2_dig2 (r % 60) (by omega)
  constructor
  · simp only [clockOk, digC_isD, h1, h2, h3]; simp; omega
  · simp only [clockN, h1, h2, h3]; omega
theorem date_fmt (y m d r : Nat) (h : Fld (fmtD y m d r) y m d r) : dateOk (fmtD y m d r) = true ∧ dateN (fmtD y m d r) = (dby y + ((d : Int) - 1) + cum y m) * 86400 + r := by
  obtain ⟨_, hy, hm1, hm2, hd1, hd2, hr⟩ := h
  have dd := dim_bd y m
  obtain ⟨c1, c2⟩ := clock_fmt r hr
  have e1 : 100 * two2 (digC y 3) (digC y 2) + two2 (digC y 1) (digC y 0) = y := by
    unfold two2; simp only [dg_digC]; simp; omega
  have e2 := two2_dig2 m (by omega)
  have e3 := two2_dig2 d (by omega)
  rw [fmtD_eq]
  constructor
  · simp only [dateOk, digC_isD, e1, e2, e3, c1]; simp; omega
  · simp only [dateN, e1, e2, e3, c2]
theorem clock_of (t : List UInt8) (h : clockOk t = true) : ∃ r, r < 86400 ∧ t = [digC (r / 3600) 1, digC (r / 3600) 0, 58, digC (r / 60 % 60) 1, digC (r / 60 % 60) 0, 58, digC (r % 60) 1, digC (r % 60) 0] ∧ clockN t = r := by
  obtain ⟨a, b, c, d, e, f, rfl, i1, i2, i3, i4, i5, i6⟩ := fits_clock t (clockOk_fits t h)
  simp [clockOk] at h
  have d1 := (isD_iff a).1 i1
  have d2 := (isD_iff b).1 i2
  have d3 := (isD_iff c).1 i3
  have d4 := (isD_iff d).1 i4
  have d5 := (isD_iff e).1 i5
  have d6 := (isD_iff f).1 i6
  refine ⟨3600 * two2 a b + 60 * two2 c d + two2 e f, by omega, ?_, by simp [clockN]⟩
  have w1 : (3600 * two2 a b + 60 * two2 c d + two2 e f) / 3600 = two2 a b := by omega
  have w2 : (3600 * two2 a b + 60 * two2 c d + two2 e f) / 60 % 60 = two2 c d := by omega
  have w3 : (3600 * two2 a b + 60 * two2 c d + two2 e f) % 60 = two2 e f := by omega
  rw [w1, w2, w3]
  rw [digC_of a i1 _ _ (by unfold two2 dg; simp; omega), digC_of b i2 _ _ (by unfold two2 dg; simp; omega), digC_of c i3 _ _ (by unfold two2 dg; simp; omega), digC_of d i4 _ _ (by unfold two2 dg; simp; omega), digC_of e i5 _ _ (by unfold two2 dg; simp; omega), digC_of f i6 _ _ (by unfold two2 dg; simp; omega)]
theorem date_of (l : List UInt8) (h : dateOk l = true) : ∃ y m d r, Fld l y m d r ∧ dateV l = (dby (y : Nat) + ((d : Nat) - 1 : Int) + cum (y : Nat) m) * 86400 + (r : Nat) := by
  have hf : fitsL l dateF = true := by
    cases hf : fitsL l dateF with
    | true => rfl
    | false => rw [fits_date_not l hf] at h; cases h
  obtain ⟨y1, y2, y3, y4, m1, m2, d1, d2, t, rfl, i1, i2, i3, i4, i5, i6, i7, i8, _⟩ := fits_date l hf
  have hv : dateV (y1 :: y2 :: y3 :: y4 :: 45 :: m1 :: m2 :: 45 :: d1 :: d2 :: 95 :: t) = dateN (y1 :: y2 :: y3 :: y4 :: 45 :: m1 :: m2 :: 45 :: d1 :: d2 :: 95 :: t) := by unfold dateV; rw [if_pos h]
  simp [dateOk, i1, i2, i3, i4, i5, i6, i7, i8] at h
  obtain ⟨hc, h1, h2, h3, h4⟩ := h
  obtain ⟨r, hr, ht, hn⟩ := clock_of t hc
  have k1 := (isD_iff y1).1 i1
  have k2 := (isD_iff y2).1 i2
  have k3 := (isD_iff y3).1 i3
  have k4 := (isD_iff y4).1 i4
  have k5 := (isD_iff m1).1 i5
  have k6 := (isD_iff m2).1 i6
  have k7 := (isD_iff d1).1 i7
  have k8 := (isD_iff d2).1 i8
  refine ⟨100 * two2 y1 y2 + two2 y3 y4, two2 m1 m2, two2 d1 d2, r, ⟨?_, by unfold two2 dg; omega, h1, h2, h3, by simpa using h4, hr⟩, ?_⟩
  · rw [fmtD_eq, ht]
    rw [digC_of y1 i1 (100 * two2 y1 y2 + two2 y3 y4) 3 (by unfold two2 dg; simp; omega),
      digC_of y2 i2 (100 * two2 y1 y2 + two2 y3 y4) 2 (by unfold two2 dg; simp; omega),
      digC_of y3 i3 (100 * two2 y1 y2 + two2 y3 y4) 1 (by unfold two2 dg; simp; omega),
      digC_of y4 i4 (100 * two2 y1 y2 + two2 y3 y4) 0 (by unfold two2 dg; simp; omega),
      digC_of m1 i5 (two2 m1 m2) 1 (by unfold two2 dg; simp; omega),
      digC_of m2 i6 (two2 m1 m2) 0 (by unfold two2 dg; simp; omega),
      digC_of d1 i7 (two2 d1 d2) 1 (by unfold two2 dg; simp; omega),
      digC_of d2 i8 (two2 d1 d2) 0 (by unfold two2 dg; simp; omega)]
  · rw [hv]; simp only [dateN, hn]
def numD (y m d r : Nat) : Int := (dby y + ((d : Int) - 1) + cum y m) * 86400 + r
theorem cum_le (y : Int) (m : Nat) (h : m ≤ 13) : cum y m + (if m = 13 then 0 else dim y m) ≤ 365 + lp y ∨ m = 0 := by
  have c := cum_13 y
  rcases Nat.eq_zero_or_pos m with h0 | h0
  · exact .inr h0
  · left
    have key : ∀ k, k + m = 13 → cum y m + (if m = 13 then 0 else dim y m) ≤ cum y 13 := by
      intro k
      induction k generalizing m with
      | zero => intro hk; obtain rfl : m = 13 := by omega
                simp
      | succ k ih =>
        intro hk
        have hs := cum_succ y m h0
        rw [if_neg (by omega), ← hs]
        have := ih (m + 1) (by omega) (by omega) (by omega)
        have hd := dim_bd y (m + 1 : Nat)
        split at this <;> omega
    have := key (13 - m) (by omega)
    omega
theorem numD_year (y m d r y' m' d' r' : Nat) (hm2 : m ≤ 12) (hm : 1 ≤ m) (hd2 : (d : Int) ≤ dim y m) (hr : r < 86400) (hd' : 1 ≤ d') (h : y < y') : numD y m d r < numD y' m' d' r' := by
  have h1 := cum_le y m (by omega)
  rw [if_neg (by omega)] at h1
  have h2 := dby_succ y
  have h3 := dby_mono (y + 1) y' (by omega)
  have h4 := (cum_bd y' m').1
  unfold numD; omega
theorem cum_mono (y : Int) (m m' : Nat) (hm : 1 ≤ m) (h : m < m') : cum y m + dim y m ≤ cum y m' := by
  induction m' with
  | zero => omega
  | succ k ih =>
    rcases Nat.lt_or_ge m k with hk | hk
    · have := ih hk
      have hs := cum_succ y k (by omega)
      have hd := dim_bd y k
      omega
    · obtain rfl : m = k := by omega
      rw [cum_succ y m hm]; omega
theorem numD_month (y m d r m' d' r' : Nat) (hm : 1 ≤ m) (hd2 : (d : Int) ≤ dim y m) (hr : r < 86400) (hd' : 1 ≤ d') (h : m < m') : numD y m d r < numD y m' d' r' := by
  have h1 := cum_mono y m m' hm h
  unfold numD; omega
theorem numD_day (y m d r d' r' : Nat) (hr : r < 86400) (h : d < d') : numD y m d r < numD y m d' r' := by
  unfold numD; omega
theorem numD_inj (l l' : List UInt8) (y m d r y' m' d' r' : Nat) (h : Fld l y m d r) (h' : Fld l' y' m' d' r') (e : numD y m d r = numD y' m' d' r') : y = y' ∧ m = m' ∧ d = d' ∧ r = r' := by
  obtain ⟨_, a1, a2, a3, a4, a5, a6⟩ := h
  obtain ⟨_, b1, b2, b3, b4, b5, b6⟩ := h'
  rcases Nat.lt_trichotomy y y' with hy | rfl | hy
  · have := numD_year y m d r y' m' d' r' a3 a2 a5 a6 b4 hy; omega
  · rcases Nat.lt_trichotomy m m' with hm | rfl | hm
    · have := numD_month y m d r m' d' r' a2 a5 a6 b4 hm; omega
    · rcases Nat.lt_trichotomy d d' with hd | rfl | hd
      · have := numD_day y m d r d' r' a6 hd; omega
      · exact ⟨rfl, rfl, rfl, by unfold numD at e; omega⟩
      · have := numD_day y m d' r' d r b6 hd; omega
    · have := numD_month y m' d' r' m d r b2 b5 b6 a4 hm; omega
  · have := numD_year y' m' d' r' y m d r b3 b2 b5 b6 a4 hy; omega

theorem digC_nat (n s : Nat) : (digC n s).toNat = 48 + n / 10 ^ s % 10 := by unfold digC; simp; omega
theorem digC_lt (n s n' s' : Nat) : (decide (digC n s < digC n' s')) = decide (n / 10 ^ s % 10 < n' / 10 ^ s' % 10) := by
  rw [Bool.eq_iff_iff]; simp only [decide_eq_true_eq, UInt8.lt_iff_toNat_lt, digC_nat]; omega
theorem digC_beq (n s n' s' : Nat) : (digC n s == digC n' s') = decide (n / 10 ^ s % 10 = n' / 10 ^ s' % 10) := by
  rw [Bool.eq_iff_iff]; simp only [beq_iff_eq, decide_eq_true_eq, ← UInt8.toNat_inj, digC_nat]; omega
theorem less_two (n n' : Nat) (s s' : List UInt8) (h : n ≤ 99) (h' : n' ≤ 99) : Op.bytesLess (digC n 1 :: digC n 0 :: s) (digC n' 1 :: digC n' 0 :: s') = (decide (n < n') || (decide (n = n') && Op.bytesLess s s')) := by
  simp only [Op.bytesLess, digC_lt, digC_beq]
  cases Op.bytesLess s s' <;> (rw [Bool.eq_iff_iff]; simp; omega)
theorem less_four (n n' : Nat) (s s' : List UInt8) (h : n ≤ 9999) (h' : n' ≤ 9999) : Op.bytesLess (digC n 3 :: digC n 2 :: digC n 1 :: digC n 0 :: s) (digC n' 3 :: digC n' 2 :: digC n' 1 :: digC n' 0 :: s') = (decide (n < n') || (decide (n = n') && Op.bytesLess s s')) := by
  simp only [Op.bytesLess, digC_lt, digC_beq]
  obtain ⟨a, ha⟩ : ∃ a, a = n / 10 ^ 3 % 10 := ⟨_, rfl⟩
  obtain ⟨b, hb⟩ : ∃ a, a = n / 10 ^ 2 % 10 := ⟨_, rfl⟩
  obtain ⟨c, hc⟩ : ∃ a, a = n / 10 ^ 1 % 10 := ⟨_, rfl⟩
  obtain ⟨d, hd⟩ : ∃ a, a = n / 10 ^ 0 % 10 := ⟨_, rfl⟩
  obtain ⟨a', ha'⟩ : ∃ a, a = n' / 10 ^ 3 % 10 := ⟨_, rfl⟩
  obtain ⟨b', hb'⟩ : ∃ a, a = n' / 10 ^ 2 % 10 := ⟨_, rfl⟩
  obtain ⟨c', hc'⟩ : ∃ a, a = n' / 10 ^ 1 % 10 := ⟨_, rfl⟩
  obtain ⟨d', hd'⟩ : ∃ a, a = n' / 10 ^ 0 % 10 := ⟨_, rfl⟩
  rw [← ha, ← hb, ← hc, ← hd, ← ha', ← hb', ← hc', ← hd']
  have e : n = 1000 * a + 100 * b + 10 * c + d := by simp at ha hb hc hd; omega
  have e' : n' = 1000 * a' + 100 * b' + 10 * c' + d' := by simp at ha' hb' hc' hd'; omega
  have l1 : a ≤ 9 ∧ b ≤ 9 ∧ c ≤ 9 ∧ d ≤ 9 := by omega
  have l2 : a' ≤ 9 ∧ b' ≤ 9 ∧ c' ≤ 9 ∧ d' ≤ 9 := by omega
  clear ha hb hc hd ha' hb' hc' hd' h h'
  subst e e'
  cases Op.bytesLess s s' <;> (rw [Bool.eq_iff_iff]; simp; omega)
theorem less_same (c : UInt8) (s s' : List UInt8) : Op.bytesLess (c :: s) (c :: s') = Op.bytesLess s s' := by simp [Op.bytesLess]
theorem less_fmt (l l' : List UInt8) (y m d r y' m' d' r' : Nat) (h : Fld l y m d r) (h' : Fld l' y' m' d' r') : Op.bytesLess l l' = decide (numD y m d r < numD y' m' d' r') := by
  have HH := h
  have HH' := h'
  obtain ⟨rfl, a1, a2, a3, a4, a5, a6⟩ := h
  obtain ⟨rfl, b1, b2, b3, b4, b5, b6⟩ := h'
  have da := dim_bd y m
  have db := dim_bd y' m'
  rw [fmtD_eq, fmtD_eq, less_four _ _ _ _ a1 b1, less_same, less_two _ _ _ _ (by omega) (by omega), less_same, less_two _ _ _ _ (by omega) (by omega), less_same,
    less_two _ _ _ _ (by omega) (by omega), less_same, less_two _ _ _ _ (by omega) (by omega), less_same, less_two _ _ _ _ (by omega) (by omega)]
  have hnil : Op.bytesLess [] [] = false := rfl
  rw [hnil]
  have ht : (decide (r / 3600 < r' / 3600) || (decide (r / 3600 = r' / 3600) && (decide (r / 60 % 60 < r' / 60 % 60) || (decide (r / 60 % 60 = r' / 60 % 60) && (decide (r % 60 < r' % 60) || (decide (r % 60 = r' % 60) && false)))))) = decide (r < r') := by
    rw [Bool.eq_iff_iff]; simp; omega
  rw [ht]
  rw [Bool.eq_iff_iff]
  simp only [Bool.or_eq_true, Bool.and_eq_true, decide_eq_true_eq]
  rcases Nat.lt_trichotomy y y' with hy | rfl | hy
  · have := numD_year y m d r y' m' d' r' a3 a2 a5 a6 b4 hy
    simp [this, hy]
  · rcases Nat.lt_trichotomy m m' with hm | rfl | hm
    · have := numD_month y m d r m' d' r' a2 a5 a6 b4 hm
      simp [this, hm]
    · rcases Nat.lt_trichotomy d d' with hd | rfl | hd
      · have := numD_day y m d r d' r' a6 hd
        simp [this, hd]
      · have : numD y m d r < numD y m d r' ↔ r < r' := by unfold numD; omega
        simp [this]
      · have := numD_day y m d' r' d r b6 hd
        have h2 : ¬ numD y m d r < numD y m d' r' := by omega
        simp [h2]; omega
    · have := numD_month y m' d' r' m d r b2 b5 b6 a4 hm
      have h2 : ¬ numD y m d r < numD y m' d' r' := by omega
      simp [h2]; omega
  · have := numD_year y' m' d' r' y m d r b3 b2 b5 b6 a4 hy
    have h2 : ¬ numD y m d r < numD y' m' d' r' := by omega
    simp [h2]; omega
theorem drop_fmt (y m d r : Nat) : (fmtD y m d r).drop 11 = [digC (r / 3600) 1, digC (r / 3600) 0, 58, digC (r / 60 % 60) 1, digC (r / 60 % 60) 0, 58, digC (r % 60) 1, digC (r % 60) 0] := rfl
end Go.Proofs.Yteekdcdjkiclhaa

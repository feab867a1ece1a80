/- Plain laws of the numbers: a minus sign ahead, noughts behind. -/
import Derived.Test.YtjemnfiogekekaaNumRef2
namespace Go.Proofs.Ytjemnfiogekekaa
open Go.RowKit

theorem digs_dash (n : Nat) (t : List UInt8) : digs n (45 :: t) = none := by unfold digs; rw [if_neg (by decide)]
theorem numP_dash (t : List UInt8) : numP (45 :: t) = none := by
  unfold numP
  have h : whole (45 :: t) = 45 :: t.take (dot t) := by unfold whole; rw [dot_cons, if_neg (by decide)]; rfl
  rw [h, digs_dash]
  split <;> rfl
theorem dash_is {l : List UInt8} (h : dash l = true) : ∃ t, l = 45 :: t := by
  cases l with
  | nil => cases h
  | cons x t => exact ⟨t, by simp [dash] at h; rw [h]⟩
theorem undash_no {l : List UInt8} (h : dash l = false) : undash l = l := by unfold undash; rw [h]; rfl
theorem getO_minus (l : List UInt8) : getO (45 :: l) = if l = sInf then some 18442240474082181120 else (numP l).map fun p => signed true (quoB p.1 p.2) := by
  unfold getO
  rw [if_neg (by simp [sInf])]
  by_cases h : l = sInf
  · rw [if_pos h, h]; rfl
  · rw [if_neg h, if_neg (by intro e; apply h; simpa [sNinf, sInf] using e), if_neg (by simp [sNan])]
    rfl
theorem getO_nan {l : List UInt8} (h : isNan ((getO l).getD 0) = true) : l = sNan := by
  by_cases k1 : l = sInf
  · subst k1; exact absurd h (by decide)
  by_cases k2 : l = sNinf
  · subst k2; exact absurd h (by decide)
  by_cases k3 : l = sNan
  · exact k3
  exfalso
  unfold getO at h
  rw [if_neg k1, if_neg k2, if_neg k3] at h
  cases hp : numP (undash l) with
  | none => rw [hp] at h; simp only [Option.map_none, Option.getD_none] at h; exact absurd h (by decide)
  | some p =>
    rw [hp] at h
    obtain ⟨m, k⟩ := p
    obtain ⟨b1, b2⟩ := numP_bd _ _ _ hp
    have := agree_signed (dash l) (quoB m k) (quo_is m k (Nat.lt_trans b1 (by decide)) b2).2
    simp only [Option.map_some, Option.getD_some] at h
    rw [this] at h; cases h
theorem minus_bad {l : List UInt8} (h : getO l = none ∨ dash l = true ∨ isNan ((getO l).getD 0) = true) : getO (45 :: l) = none := by
  rw [getO_minus]
  by_cases hd : dash l = true
  · obtain ⟨t, rfl⟩ := dash_is hd
    rw [if_neg (by simp [sInf]), numP_dash]; rfl
  · have hd' : dash l = false := by simpa using hd
    rcases h with h | h | h
    · by_cases k1 : l = sInf
      · rw [k1] at h; cases h
      rw [if_neg k1]
      unfold getO at h
      rw [if_neg k1] at h
      split at h
      · cases h
      · split at h
        · cases h
        · rw [undash_no hd'] at h
          cases hp : numP l with
          | none => rfl
          | some p => rw [hp] at h; cases h
    · exact absurd h hd
    · have := getO_nan h
      subst this
      decide
theorem minus_ok {l : List UInt8} {q : Nat} (h : getO l = some q) (hd : dash l = false) (hn : isNan q = false) : q ≤ 2047 * 2 ^ 52 ∧ getO (45 :: l) = some (q + 2 ^ 63) := by
  rw [getO_minus]
  by_cases k1 : l = sInf
  · subst k1
    obtain rfl : 9218868437227405312 = q := by simpa [getO] using h
    exact ⟨by decide, rfl⟩
  rw [if_neg k1]
  unfold getO at h
  rw [if_neg k1, if_neg (by rintro rfl; cases hd)] at h
  split at h
  · cases h; exact absurd hn (by decide)
  · rw [undash_no hd] at h
    cases hp : numP l with
    | none => rw [hp] at h; cases h
    | some p =>
      rw [hp] at h
      obtain ⟨m, k⟩ := p
      obtain ⟨b1, b2⟩ := numP_bd _ _ _ hp
      rw [hd] at h
      obtain rfl : quoB m k = q := Option.some.inj h
      exact ⟨(quo_is m k (Nat.lt_trans b1 (by decide)) b2).2, rfl⟩

/-! noughts -/
def isDig (c : UInt8) : Bool := decide (48 ≤ c.toNat) && decide (c.toNat ≤ 57)
def cnt (l : List UInt8) : Nat := l.countP isDig
def hasStop (l : List UInt8) : Bool := l.any (· == 46)
theorem digs_cnt : ∀ (w : List UInt8) (n m : Nat), digs n w = some m → cnt w = w.length
  | [], _, _, _ => rfl
  | c :: t, n, m, h => by
    unfold digs at h
    split at h
    · rename_i hc
      have := digs_cnt t _ _ h
      unfold cnt at this ⊢
      rw [List.countP_cons_of_pos (by simp [isDig, hc]), this]; rfl
    · cases h
theorem cnt_app (a b : List UInt8) : cnt (a ++ b) = cnt a + cnt b := by unfold cnt; exact List.countP_append
theorem digs_noughts : ∀ (c m : Nat), digs m (List.replicate c 48) = some (m * 10 ^ c)
  | 0, m => by simp [digs]
  | c + 1, m => by
    rw [List.replicate_succ, digs, if_pos (by decide), digs_noughts c]
    congr 1
    rw [Nat.pow_succ, show (48 : UInt8).toNat - 48 = 0 by decide, Nat.add_zero, Nat.mul_comm 10 m, Nat.mul_assoc, Nat.mul_comm 10]
theorem dot_app (u z : List UInt8) (h : dot u < u.length) : dot (u ++ z) = dot u := by
  unfold dot at h ⊢
  rw [List.findIdx_append, if_pos h]
theorem hasStop_dot (l : List UInt8) (h : hasStop l = true) : dot l < l.length := by
  unfold hasStop at h; unfold dot
  exact List.findIdx_lt_length.2 (by simpa using h)
theorem numP_more {u : List UInt8} {m k c : Nat} (h : numP u = some (m, k)) (hd : dot u < u.length) (hc : cnt u + c ≤ 15) : numP (u ++ List.replicate c 48) = some (m * 10 ^ c, k + c) ∧ m * 10 ^ c < 2 ^ 53 ∧ k + c ≤ 15 := by
  have e1 : whole (u ++ List.replicate c 48) = whole u := by
    unfold whole; rw [dot_app u _ hd, List.take_append_of_le_length (by omega)]
  have e2 : part (u ++ List.replicate c 48) = part u ++ List.replicate c 48 := by
    unfold part; rw [dot_app u _ hd, List.drop_append_of_le_length (by omega)]
  have e3 : hasDot (u ++ List.replicate c 48) = true := by unfold hasDot; rw [dot_app u _ hd]; simp; omega
  have e4 : hasDot u = true := by unfold hasDot; simpa using hd
  have hsp := split_dot u hd
  have hcn : cnt u = cnt (whole u) + cnt (part u) := by
    rw (occs := .pos [1]) [hsp]; rw [cnt_app]; unfold cnt; rw [List.countP_cons_of_neg (by decide)]
  unfold numP at h ⊢
  rw [e1, e2, e3]
  rw [e4] at h
  split at h
  · cases h
  · cases hg : digs 0 (whole u) with
    | none => rw [hg] at h; cases h
    | some n =>
      rw [hg] at h
      simp only [if_true] at h ⊢
      split at h
      · cases h
      · rename_i hw
        cases hq : digs n (part u) with
        | none => rw [hq] at h; cases h
        | some q =>
          rw [hq] at h
          simp only at h
          split at h
          · cases h
          · rename_i hp
            obtain ⟨rfl, rfl⟩ : q = m ∧ (part u).length = k := by simpa using h
            have c1 := digs_cnt _ _ _ hg
            have c2 := digs_cnt _ _ _ hq
            have b1 := digs_lt _ _ 0 _ (show 0 < 10 ^ 0 by decide) hg
            have b2 := digs_lt _ _ _ _ b1 hq
            rw [if_neg (by rw [List.length_append, List.length_replicate]; omega), if_neg hw, digs_app, hq]
            simp only [Option.bind_some, digs_noughts]
            rw [if_neg (by rw [List.length_append, List.length_replicate]; omega)]
            refine ⟨by simp, ?_, by omega⟩
            have : q * 10 ^ c < 10 ^ (0 + (whole u).length + (part u).length) * 10 ^ c := Nat.mul_lt_mul_of_pos_right b2 (Nat.pow_pos (by omega))
            rw [← Nat.pow_add] at this
            exact Nat.lt_of_lt_of_le this (Nat.le_trans (Nat.pow_le_pow_right (by omega) (show 0 + (whole u).length + (part u).length + c ≤ 15 by omega)) (by decide))
theorem noughts_ok {l : List UInt8} {q c : Nat} (h : getO l = some q) (hs : hasStop l = true) (hc : cnt l + c ≤ 15) : getO (l ++ List.replicate c 48) = some q := by
  have hne : ∀ z, l ++ z ≠ sInf ∧ l ++ z ≠ sNinf ∧ l ++ z ≠ sNan := by
    have hm : (46 : UInt8) ∈ l := by unfold hasStop at hs; simpa using hs
    intro z
    refine ⟨fun e => ?_, fun e => ?_, fun e => ?_⟩
    all_goals
      have : (46 : UInt8) ∈ l ++ z := List.mem_append_left _ hm
      rw [e] at this
      exact absurd this (by decide)
  have h0 := hne []
  rw [List.append_nil] at h0
  unfold getO at h ⊢
  obtain ⟨n1, n2, n3⟩ := hne (List.replicate c 48)
  rw [if_neg n1, if_neg n2, if_neg n3]
  rw [if_neg h0.1, if_neg h0.2.1, if_neg h0.2.2] at h
  cases hp : numP (undash l) with
  | none => rw [hp] at h; cases h
  | some p =>
    obtain ⟨m, k⟩ := p
    rw [hp] at h
    have hd : dash (l ++ List.replicate c 48) = dash l := by
      cases l with
      | nil => cases hs
      | cons x t => rfl
    have hu : undash (l ++ List.replicate c 48) = undash l ++ List.replicate c 48 := by
      unfold undash; rw [hd]
      cases l with
      | nil => cases hs
      | cons x t => split <;> rfl
    have hst : dot (undash l) < (undash l).length := by
      cases hdl : dash l
      · rw [undash_no hdl]; exact hasStop_dot l hs
      · obtain ⟨t, rfl⟩ := dash_is hdl
        exact hasStop_dot t (by simpa [hasStop] using hs)
    have hcu : cnt (undash l) = cnt l := by
      cases hdl : dash l
      · rw [undash_no hdl]
      · obtain ⟨t, rfl⟩ := dash_is hdl
        show cnt t = _
        unfold cnt
        rw [List.countP_cons_of_neg (by decide)]
    obtain ⟨p1, p2, p3⟩ := numP_more hp hst (by rw [hcu]; exact hc)
    rw [hd, hu, p1]
    simp only [Option.map_some] at h ⊢
    rw [quo_more _ _ _ p2 p3]
    exact h

theorem agree_turn {x y : Nat} (h : Agree x y) : Agree y x := by
  rcases h with ⟨a, b⟩ | ⟨a, b⟩
  · exact .inl ⟨b, a⟩
  · exact .inr ⟨by rw [← b]; exact a, b.symm⟩

set_option maxHeartbeats 2000000 in
theorem NumberGets_walk (a0 : Option Addr) (len0 cap0 : Nat) (z0 : List Int) (w : World) (w0 : IsRow .u8 w a0 len0 cap0 z0) :
    Calls Try.prog 3 #[.slice a0 len0 cap0] w fun e w' => e = .returned (.bool true) ∧ Below w.heap.size w w' := by
  obtain ⟨l0, s0⟩ := w0.sl
  clear w0
  by_cases h0 : (100 : Int) < len0
  · go_enter Try.func3, Try.ntmps3
    go_wp2_with fail
    refine (awake_any _).mono ?_
    rintro e w1 ⟨rfl, hb⟩
    go_wp2_with fail
    go_ret
    exact ⟨rfl, hb⟩
  · replace h0 : (len0 : Int) ≤ 100 := by omega
    go_enter Try.func3, Try.ntmps3
    go_wp2_with fail
    refine (get_any _ _ _ _ _ s0 (by omega)).mono ?_
    rintro e w1 ⟨rfl, hW1⟩
    go_wp2_with fail
    refine (refGet_any _ _ _ _ _ (s0.after hW1) (by omega)).mono ?_
    rintro e w2 ⟨r, rfl, hag, hb2⟩
    have hW2 := hW1.trans (hb2.mono hW1.size)
    have hA := Lib.hid (agree_turn hag)
    clear hag
    generalize (getO l0).getD 0 = x at *
    generalize (getO l0).isSome = o at *
    have e1 : (o == o) = true := by simp
    go_wp2_with fail
    refine (same_any _ _ hA.out _).mono ?_
    rintro e w3 ⟨rfl, rfl⟩
    go_wp2_with fail
    refine (awake_any _).mono ?_
    rintro e w5 ⟨rfl, hb5⟩
    go_wp2_with fail
    go_ret
    exact ⟨rfl, hW2.trans (hb5.mono hW2.size)⟩
end Go.Proofs.Ytjemnfiogekekaa

/- date.Clock, date.Get: what they compute. -/
import Derived.Test.YtoadpeigomkgiaaDoorODate1
namespace Go.Proofs.YtoadpeigomkgiaaDoor
open Go.RowKit

def clockF : List UInt8 := [48, 48, 58, 48, 48, 58, 48, 48]
def dateF : List UInt8 := [48, 48, 48, 48, 45, 48, 48, 45, 48, 48, 95, 48, 48, 58, 48, 48, 58, 48, 48]
theorem fitsL_length (l r : List UInt8) (h : fitsL l r = true) : l.length = r.length := by
  rcases Nat.decEq l.length r.length with hne | he
  · rw [fitsL_len l r hne] at h; cases h
  · exact he
theorem clockB : ((⟨#[48, 48, 48, 48, 45, 48, 48, 45, 48, 48, 95, 48, 48, 58, 48, 48, 58, 48, 48]⟩ : ByteArray).extract 11 19).data.toList = clockF := by decide
theorem dateB : (⟨#[48, 48, 48, 48, 45, 48, 48, 45, 48, 48, 95, 48, 48, 58, 48, 48, 58, 48, 48]⟩ : ByteArray).data.toList = dateF := rfl
theorem fits_clock (l : List UInt8) (h : fitsL l clockF = true) : ∃ a b c d e f, l = [a, b, 58, c, d, 58, e, f] ∧ isD a = true ∧ isD b = true ∧ isD c = true ∧ isD d = true ∧ isD e = true ∧ isD f = true := by
  have hl := fitsL_length l _ h
  unfold clockF at h hl
  match l, hl, h with
  | [a, b, p, c, d, q, e, f], _, h =>
    simp [fitsL, fitsC] at h
    obtain ⟨h1, h2, h3, h4, h5, h6, h7, h8⟩ := h
    subst h3 h6
    exact ⟨a, b, c, d, e, f, rfl, h1, h2, h4, h5, h7, h8⟩
theorem fits_clock_not (l : List UInt8) (h : fitsL l clockF = false) : clockOk l = false := by
  unfold clockF at h
  unfold clockOk
  split
  · rename_i a b p c d q e f
    simp [fitsL, fitsC] at h ⊢
    intro h1 h2 h3 h4 h5 h6 h7 h8
    have := h h1 h2 h3 h4 h5 h6 h7
    rw [h8] at this
    cases this
  · rfl
theorem fits_date (l : List UInt8) (h : fitsL l dateF = true) : ∃ y1 y2 y3 y4 m1 m2 d1 d2 t, l = y1 :: y2 :: y3 :: y4 :: 45 :: m1 :: m2 :: 45 :: d1 :: d2 :: 95 :: t ∧ isD y1 = true ∧ isD y2 = true ∧ isD y3 = true ∧ isD y4 = true ∧ isD m1 = true ∧ isD m2 = true ∧ isD d1 = true ∧ isD d2 = true ∧ fitsL t clockF = true := by
  have hl := fitsL_length l _ h
  unfold dateF at h hl
  match l, hl, h with
  | y1 :: y2 :: y3 :: y4 :: p :: m1 :: m2 :: q :: d1 :: d2 :: r :: t, _, h =>
    simp only [fitsL, Bool.and_eq_true] at h
    obtain ⟨h1, h2, h3, h4, h5, h6, h7, h8, h9, h10, h11, h12⟩ := h
    simp [fitsC] at h1 h2 h3 h4 h5 h6 h7 h8 h9 h10 h11
    subst h5 h8 h11
    exact ⟨y1, y2, y3, y4, m1, m2, d1, d2, t, rfl, h1, h2, h3, h4, h6, h7, h9, h10, h12⟩
theorem clockOk_fits (t : List UInt8) (h : clockOk t = true) : fitsL t clockF = true := by
  cases hf : fitsL t clockF with
  | true => rfl
  | false => rw [fits_clock_not t hf] at h; cases h
theorem fits_date_not (l : List UInt8) (h : fitsL l dateF = false) : dateOk l = false := by
  unfold dateF at h
  unfold dateOk
  split
  · rename_i y1 y2 y3 y4 p m1 m2 q d1 d2 r t
    cases hc : clockOk t with
    | false => simp
    | true =>
      have hf := clockOk_fits t hc
      unfold clockF at hf
      simp [fitsL, fitsC, hf] at h ⊢
      intro h1 h2 h3 h4 h5 h6 h7 h8 h9 h10 h11
      exact absurd h11 (h h1 h2 h3 h4 h5 h6 h7 h8 h9 h10)
  · rfl
theorem digN_two (a b : UInt8) : digN [a, b] = two2 a b := by simp [digN, two2]
theorem digN_four (a b c d : UInt8) : digN [a, b, c, d] = 100 * two2 a b + two2 c d := by simp [digN, two2]; omega
theorem two2_lt (a b : UInt8) (ha : isD a = true) (hb : isD b = true) : two2 a b ≤ 99 := by
  have h1 := (isD_iff a).1 ha
  have h2 := (isD_iff b).1 hb
  unfold two2 dg; omega

set_option maxHeartbeats 2000000 in
theorem clock_any (a : Option Addr) (len cap : Nat) (l : List UInt8) (w : World) (hs : Sl w a len cap l) (hl : l.length ≤ 9223372036854775807) :
    Calls Tryd.prog 42 #[.slice a len cap] w fun e w' => e = .returned (.tuple #[.int .i64 (clockV l), .bool (clockOk l)]) ∧ Below w.heap.size w w' := by
  obtain ⟨R, hR⟩ : ∃ R, R = clockOk l := ⟨_, rfl⟩
  obtain ⟨V, hV⟩ : ∃ V, V = clockV l := ⟨_, rfl⟩
  rw [← hR, ← hV]
  have HR := Lib.hid hR
  have HV := Lib.hid hV
  clear hR hV
  cases hf : fitsL l clockF with
  | false =>
    have HE := Lib.hid (show R = false by rw [HR.out]; exact fits_clock_not l hf)
    have HZ := Lib.hid (show V = 0 by rw [HV.out, clockV, ← HR.out, HE.out]; rfl)
    go_enter Tryd.func42, Tryd.ntmps42
    go_wp2_with fail
    refine (fits_any _ _ _ _ _ _ hs (by decide) (by decide) hl).mono ?_
    rintro e w1 ⟨rfl, hb1⟩
    rw [clockB, hf]
    go_wp2_with fail
    go_ret2
    exact ⟨by rw [HE.out, HZ.out]; rfl, hb1⟩
  | true =>
    obtain ⟨c1, c2, c3, c4, c5, c6, rfl, i1, i2, i3, i4, i5, i6⟩ := fits_clock l hf
    obtain rfl : len = 8 := hs.1
    have hcap : 8 ≤ cap := hs.2.1
    obtain ⟨b, o, rfl, _, _⟩ := hs.some (by omega)
    obtain ⟨H, hH⟩ : ∃ H, H = two2 c1 c2 := ⟨_, rfl⟩
    obtain ⟨M, hM⟩ : ∃ M, M = two2 c3 c4 := ⟨_, rfl⟩
    obtain ⟨S, hS⟩ : ∃ S, S = two2 c5 c6 := ⟨_, rfl⟩
    have bH : H ≤ 99 := by rw [hH]; exact two2_lt _ _ i1 i2
    have bM : M ≤ 99 := by rw [hM]; exact two2_lt _ _ i3 i4
    have bS : S ≤ 99 := by rw [hS]; exact two2_lt _ _ i5 i6
    have HK := Lib.hid (show R = decide (H ≤ 23 ∧ M ≤ 59 ∧ S ≤ 59) by rw [HR.out]; simp [clockOk, i1, i2, i3, i4, i5, i6, hH, hM, hS])
    have HN := Lib.hid (show V = if R then 3600 * (H : Int) + 60 * (M : Int) + (S : Int) else 0 by rw [HV.out, clockV, ← HR.out, hH, hM, hS]; rfl)
    have D1 := digN_two c1 c2
    have D2 := digN_two c3 c4
    have D3 := digN_two c5 c6
    rw [← hH] at D1
    rw [← hM] at D2
    rw [← hS] at D3
    have G1 : Hid (∀ c ∈ [c1, c2], isD c = true) := Lib.hid (by simp [i1, i2])
    have G2 : Hid (∀ c ∈ [c3, c4], isD c = true) := Lib.hid (by simp [i3, i4])
    have G3 : Hid (∀ c ∈ [c5, c6], isD c = true) := Lib.hid (by simp [i5, i6])
    have DD1 := Lib.hid D1
    have DD2 := Lib.hid D2
    have DD3 := Lib.hid D3
    have HS := Lib.hid hs
    clear hH hM hS D1 D2 D3 i1 i2 i3 i4 i5 i6 hs HR HV
    go_enter Tryd.func42, Tryd.ntmps42
    go_wp2_with fail
    refine (fits_any _ _ _ _ _ _ HS.out (by decide) (by decide) hl).mono ?_
    rintro e w1 ⟨rfl, hb1⟩
    rw [clockB, hf]
    have hs1 := HS.out.after hb1
    have t1 := hs1.take 2 (by omega)
    have t2 := hs1.sub 3 5 (by omega) (by omega)
    have t3 := hs1.sub 6 8 (by omega) (by omega)
    simp only [List.take_succ_cons, List.take_zero, List.drop_succ_cons, List.drop_zero] at t1 t2 t3
    have T1 := Lib.hid t1
    have T2 := Lib.hid t2
    have T3 := Lib.hid t3
    clear hf t1 t2 t3 hs1
    go_wp2_with fail
    go_quiet ((go_at_call 62; first | (with_reducible exact Calls.quiet_of_same (digits_anyD _ _ _ _ _ (T1.out.drewN _) G1.out (by simp))) | (with_reducible exact Calls.quiet_of_same (digits_anyD _ _ _ _ _ (T2.out.drewN _) G2.out (by simp))) | (with_reducible exact Calls.quiet_of_same (digits_anyD _ _ _ _ _ (T3.out.drewN _) G3.out (by simp)))))
    rw [DD1.out, DD2.out, DD3.out]
    have hW := below_drewN hb1 nq
    by_cases x1 : H ≤ 23
    · by_cases x2 : M ≤ 59
      · by_cases x3 : S ≤ 59
        · have HE := Lib.hid (show R = true by rw [HK.out]; simp [x1, x2, x3])
          have HZ := Lib.hid (show V = (H : Int) * 3600 + (M : Int) * 60 + (S : Int) by rw [HN.out, HE.out, if_pos rfl]; omega)
          go_wp2_with fail
          go_ret2
          exact ⟨by rw [HE.out, HZ.out]; rfl, hW⟩
        · have HE := Lib.hid (show R = false by rw [HK.out]; simp [x3])
          have HZ := Lib.hid (show V = 0 by rw [HN.out, HE.out]; rfl)
          replace x3 : (59 : Int) < (S : Int) := by omega
          go_wp2_with fail
          go_ret2
          exact ⟨by rw [HE.out, HZ.out]; rfl, hW⟩
      · have HE := Lib.hid (show R = false by rw [HK.out]; simp [x2])
        have HZ := Lib.hid (show V = 0 by rw [HN.out, HE.out]; rfl)
        replace x2 : (59 : Int) < (M : Int) := by omega
        go_wp2_with fail
        go_ret2
        exact ⟨by rw [HE.out, HZ.out]; rfl, hW⟩
    · have HE := Lib.hid (show R = false by rw [HK.out]; simp [x1])
      have HZ := Lib.hid (show V = 0 by rw [HN.out, HE.out]; rfl)
      replace x1 : (23 : Int) < (H : Int) := by omega
      go_wp2_with fail
      go_ret2
      exact ⟨by rw [HE.out, HZ.out]; rfl, hW⟩
end Go.Proofs.YtoadpeigomkgiaaDoor

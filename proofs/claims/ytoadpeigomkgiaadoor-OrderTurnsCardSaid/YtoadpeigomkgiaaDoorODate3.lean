/- date.Get: what it computes. -/
import Derived.Test.YtoadpeigomkgiaaDoorODate2
namespace Go.Proofs.YtoadpeigomkgiaaDoor
open Go.RowKit

set_option maxHeartbeats 4000000 in
theorem get_anyD (a : Option Addr) (len cap : Nat) (l : List UInt8) (w : World) (hs : Sl w a len cap l) (hl : l.length ≤ 9223372036854775807) :
    Calls Tryd.prog 44 #[.slice a len cap] w fun e w' => e = .returned (.tuple #[.int .i64 (dateV l), .bool (dateOk l)]) ∧ Below w.heap.size w w' := by
  obtain ⟨R, hR⟩ : ∃ R, R = dateOk l := ⟨_, rfl⟩
  obtain ⟨V, hV⟩ : ∃ V, V = dateV l := ⟨_, rfl⟩
  rw [← hR, ← hV]
  have HR := Lib.hid hR
  have HV := Lib.hid hV
  clear hR hV
  cases hf : fitsL l dateF with
  | false =>
    have HE := Lib.hid (show R = false by rw [HR.out]; exact fits_date_not l hf)
    have HZ := Lib.hid (show V = 0 by rw [HV.out, dateV, ← HR.out, HE.out]; rfl)
    go_enter Tryd.func44, Tryd.ntmps44
    go_wp2_with fail
    refine (fits_any _ _ _ _ _ _ hs (by decide) (by decide) hl).mono ?_
    rintro e w1 ⟨rfl, hb1⟩
    rw [dateB, hf]
    go_wp2_with fail
    go_ret2
    exact ⟨by rw [HE.out, HZ.out]; rfl, hb1⟩
  | true =>
    obtain ⟨y1, y2, y3, y4, m1, m2, d1, d2, t, rfl, i1, i2, i3, i4, i5, i6, i7, i8, ht⟩ := fits_date l hf
    have htl : t.length = 8 := fitsL_length t _ ht
    obtain rfl : len = 19 := by rw [hs.1]; simp [htl]
    have hcap : 19 ≤ cap := hs.2.1
    obtain ⟨b, o, rfl, _, _⟩ := hs.some (by omega)
    obtain ⟨Y, hY⟩ : ∃ Y, Y = 100 * two2 y1 y2 + two2 y3 y4 := ⟨_, rfl⟩
    obtain ⟨M, hM⟩ : ∃ M, M = two2 m1 m2 := ⟨_, rfl⟩
    obtain ⟨D, hD⟩ : ∃ D, D = two2 d1 d2 := ⟨_, rfl⟩
    have bY : Y ≤ 9999 := by have := two2_lt y1 y2 i1 i2; have := two2_lt y3 y4 i3 i4; omega
    have bM : M ≤ 99 := by rw [hM]; exact two2_lt _ _ i5 i6
    have bD : D ≤ 99 := by rw [hD]; exact two2_lt _ _ i7 i8
    obtain ⟨CO, hCO⟩ : ∃ CO, CO = clockOk t := ⟨_, rfl⟩
    obtain ⟨CV, hCV⟩ : ∃ CV, CV = clockV t := ⟨_, rfl⟩
    have bCV : 0 ≤ CV ∧ CV ≤ 1000000 := by
      obtain ⟨c1, c2, c3, c4, c5, c6, rfl, _, _, _, _, _, _⟩ := fits_clock t ht
      rw [hCV, clockV]
      cases hc : clockOk [c1, c2, 58, c3, c4, 58, c5, c6] with
      | false => simp
      | true =>
        simp [clockOk] at hc
        simp [clockN]; omega
    obtain ⟨bCV1, bCV2⟩ := bCV
    have HK := Lib.hid (show R = (CO && decide (1 ≤ M ∧ M ≤ 12 ∧ 1 ≤ D ∧ (D : Int) ≤ dim (Y : Nat) (M : Nat))) by rw [HR.out]; simp [dateOk, i1, i2, i3, i4, i5, i6, i7, i8, hY, hM, hD, hCO])
    have HN := Lib.hid (show V = if R then (dby (Y : Nat) + ((D : Int) - 1) + cum (Y : Nat) M) * 86400 + CV else 0 by
      rw [HV.out, dateV, ← HR.out]
      cases hr : R with
      | false => rfl
      | true =>
        have : CO = true := by have := HK.out; rw [hr] at this; simp at this; exact this.1
        simp only [if_true, dateN, hY, hM, hD, hCV, clockV, ← hCO, this])
    have DD1 := Lib.hid (show digN [y1, y2, y3, y4] = Y by rw [digN_four, hY])
    have DD2 := Lib.hid (show digN [m1, m2] = M by rw [digN_two, hM])
    have DD3 := Lib.hid (show digN [d1, d2] = D by rw [digN_two, hD])
    have G1 : Hid (∀ c ∈ [y1, y2, y3, y4], isD c = true) := Lib.hid (by simp [i1, i2, i3, i4])
    have G2 : Hid (∀ c ∈ [m1, m2], isD c = true) := Lib.hid (by simp [i5, i6])
    have G3 : Hid (∀ c ∈ [d1, d2], isD c = true) := Lib.hid (by simp [i7, i8])
    have HS := Lib.hid hs
    have HT := Lib.hid htl
    have HCO := Lib.hid hCO
    have HCV := Lib.hid hCV
    clear hY hM hD i1 i2 i3 i4 i5 i6 i7 i8 hs HR HV htl hCO hCV ht
    go_enter Tryd.func44, Tryd.ntmps44
    go_wp2_with fail
    refine (fits_any _ _ _ _ _ _ HS.out (by decide) (by decide) hl).mono ?_
    rintro e w1 ⟨rfl, hb1⟩
    rw [dateB, hf]
    have hs1 := HS.out.after hb1
    have t4 := Lib.hid (hs1.sub 11 19 (by omega) (by omega))
    clear hs1 hf hl
    go_wp2_with fail
    have tt := t4.out
    simp only [List.drop_succ_cons, List.drop_zero] at tt
    rw [List.take_of_length_le (by rw [HT.out]; omega)] at tt
    refine (clock_any _ _ _ t _ tt (by rw [HT.out]; omega)).mono ?_
    rintro e w2 ⟨rfl, hb2⟩
    rw [← HCO.out, ← HCV.out]
    have hW2 := hb1.trans (hb2.mono hb1.size)
    have hs2 := HS.out.after hW2
    have t1 := hs2.take 4 (by omega)
    have t2 := hs2.sub 5 7 (by omega) (by omega)
    have t3 := hs2.sub 8 10 (by omega) (by omega)
    simp only [List.take_succ_cons, List.take_zero, List.drop_succ_cons, List.drop_zero] at t1 t2 t3
    have T1 := Lib.hid t1
    have T2 := Lib.hid t2
    have T3 := Lib.hid t3
    clear t1 t2 t3 hs2 tt t4
    go_wp2_with fail
    go_quiet ((go_at_call 62; first | (with_reducible exact Calls.quiet_of_same (digits_anyD _ _ _ _ _ (T1.out.drewN _) G1.out (by simp))) | (with_reducible exact Calls.quiet_of_same (digits_anyD _ _ _ _ _ (T2.out.drewN _) G2.out (by simp))) | (with_reducible exact Calls.quiet_of_same (digits_anyD _ _ _ _ _ (T3.out.drewN _) G3.out (by simp)))))
    rw [DD1.out, DD2.out, DD3.out]
    have hW := below_drewN hW2 nq
    cases hco : CO with
    | false =>
      have HE := Lib.hid (show R = false by rw [HK.out, hco]; rfl)
      have HZ := Lib.hid (show V = 0 by rw [HN.out, HE.out]; rfl)
      go_wp2_with fail
      go_ret2
      exact ⟨by rw [HE.out, HZ.out]; rfl, hW⟩
    | true =>
      by_cases x1 : 1 ≤ M
      · by_cases x2 : M ≤ 12
        · by_cases x3 : 1 ≤ D
          · have bd := dim_bd (Y : Nat) (M : Nat)
            obtain ⟨L, hL⟩ : ∃ L, L = dim (Y : Nat) (M : Nat) := ⟨_, rfl⟩
            have HLL := Lib.hid hL
            rw [← hL] at bd
            clear hL
            by_cases x4 : (D : Int) ≤ L
            · have HE := Lib.hid (show R = true by rw [HK.out, hco, ← HLL.out]; simp [x1, x2, x3, x4])
              have HZ := Lib.hid (show V = (dby (Y : Nat) + ((D : Int) - 1) + cum (Y : Nat) M) * 86400 + CV by rw [HN.out, HE.out, if_pos rfl])
              have by1 := dby_bd (Y : Nat) (by omega) (by omega)
              go_wp2_with fail
              refine (days_any _ _ _ (by omega)).mono ?_
              rintro e w3 ⟨rfl, rfl⟩
              rw [← HLL.out]
              go_wp2_with fail
              refine (ahead_any _ _ (by omega) (by omega)).mono ?_
              rintro e w3 ⟨rfl, rfl⟩
              obtain ⟨A0, hA0⟩ : ∃ A0, A0 = dby (Y : Nat) := ⟨_, rfl⟩
              rw [← hA0]
              rw [← hA0] at by1
              have HA0 := Lib.hid hA0
              clear hA0
              go_wp2_with fail
              go_loop [9, 10] (fun s k => ∃ j : Nat, 1 ≤ j ∧ j ≤ M ∧ k = .int .i64 j ∧ s = .int .i64 (A0 + ((D : Int) - 1) + cum (Y : Nat) j)) (fun _ k => M - (intOf k).toNat)
              case atStart => exact ⟨1, by omega, x1, rfl, by simp [cum]⟩
              case round =>
                obtain ⟨j, hj1, hj2, rfl, rfl⟩ := hrel
                have cb := cum_bd (Y : Nat) j
                have cs := Lib.hid (cum_succ (Y : Nat) j hj1)
                obtain ⟨Q, hQ⟩ : ∃ Q, Q = cum (Y : Nat) j := ⟨_, rfl⟩
                rw [← hQ]
                rw [← hQ] at cb cs
                have HQ := Lib.hid hQ
                clear hQ
                by_cases hlt : j < M
                · have db := dim_bd (Y : Nat) (j : Nat)
                  go_wp2_with fail
                  refine (days_any _ _ _ (by omega)).mono ?_
                  rintro e w3 ⟨rfl, rfl⟩
                  obtain ⟨P, hP⟩ : ∃ P, P = dim (Y : Nat) (j : Nat) := ⟨_, rfl⟩
                  rw [← hP]
                  rw [← hP] at db cs
                  clear hP
                  go_wp2_with fail
                  go_round
                  case rel => exact ⟨j + 1, by omega, by omega, by go_num, by rw [cs.out]; go_num⟩
                  case measure => simp [intOf]; omega
                · obtain rfl : j = M := by omega
                  go_wp2_with fail
                  go_ret2
                  exact ⟨by rw [HE.out, HZ.out, ← HA0.out, ← HQ.out]; rfl, hW⟩
            · have HE := Lib.hid (show R = false by rw [HK.out, hco, ← HLL.out]; simp [x4])
              have HZ := Lib.hid (show V = 0 by rw [HN.out, HE.out]; rfl)
              replace x4 : L < (D : Int) := by omega
              go_wp2_with fail
              refine (days_any _ _ _ (by omega)).mono ?_
              rintro e w3 ⟨rfl, rfl⟩
              rw [← HLL.out]
              go_wp2_with fail
              go_ret2
              exact ⟨by rw [HE.out, HZ.out]; rfl, hW⟩
          · have HE := Lib.hid (show R = false by rw [HK.out, hco]; simp [x3])
            have HZ := Lib.hid (show V = 0 by rw [HN.out, HE.out]; rfl)
            replace x3 : (D : Int) < 1 := by omega
            go_wp2_with fail
            go_ret2
            exact ⟨by rw [HE.out, HZ.out]; rfl, hW⟩
        · have HE := Lib.hid (show R = false by rw [HK.out, hco]; simp [x2])
          have HZ := Lib.hid (show V = 0 by rw [HN.out, HE.out]; rfl)
          replace x2 : (12 : Int) < (M : Int) := by omega
          go_wp2_with fail
          go_ret2
          exact ⟨by rw [HE.out, HZ.out]; rfl, hW⟩
      · have HE := Lib.hid (show R = false by rw [HK.out, hco]; simp [x1])
        have HZ := Lib.hid (show V = 0 by rw [HN.out, HE.out]; rfl)
        replace x1 : (M : Int) < 1 := by omega
        go_wp2_with fail
        go_ret2
        exact ⟨by rw [HE.out, HZ.out]; rfl, hW⟩
end Go.Proofs.YtoadpeigomkgiaaDoor

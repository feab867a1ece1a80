/- the document's Get: what it computes. -/
import Derived.Test.YtoadpeigomkgiaaDoorODateRef2
namespace Go.Proofs.YtoadpeigomkgiaaDoor
open Go.RowKit

theorem list19 (l : List UInt8) (h : l.length = 19) : ∃ y1 y2 y3 y4 p m1 m2 q d1 d2 r t, l = y1 :: y2 :: y3 :: y4 :: p :: m1 :: m2 :: q :: d1 :: d2 :: r :: t ∧ t.length = 8 := by
  match l, h with
  | y1 :: y2 :: y3 :: y4 :: p :: m1 :: m2 :: q :: d1 :: d2 :: r :: t, h => exact ⟨y1, y2, y3, y4, p, m1, m2, q, d1, d2, r, t, rfl, by simpa using h⟩
theorem clockV_bd (t : List UInt8) : 0 ≤ clockV t ∧ clockV t ≤ 1000000 := by
  unfold clockV
  cases hc : clockOk t with
  | false => simp
  | true =>
    obtain ⟨c1, c2, c3, c4, c5, c6, rfl, _, _, _, _, _, _⟩ := fits_clock t (clockOk_fits t hc)
    simp [clockOk] at hc
    simp [clockN]; omega

set_option maxHeartbeats 8000000 in
theorem refGet_anyD (a : Option Addr) (len cap : Nat) (l : List UInt8) (w : World) (hs : Sl w a len cap l) (hl : l.length ≤ 9223372036854775807) :
    Calls Tryd.prog 30 #[.slice a len cap] w fun e w' => e = .returned (.tuple #[.int .i64 (dateV l), .bool (dateOk l)]) ∧ Below w.heap.size w w' := by
  obtain ⟨R, hR⟩ : ∃ R, R = dateOk l := ⟨_, rfl⟩
  obtain ⟨V, hV⟩ : ∃ V, V = dateV l := ⟨_, rfl⟩
  rw [← hR, ← hV]
  have HR := Lib.hid hR
  have HV := Lib.hid hV
  have fin : Hid (R = false → V = 0) := Lib.hid (by intro h; rw [hV, dateV, ← hR, h]; rfl)
  clear hR hV
  by_cases hlen : len = 19
  · subst hlen
    obtain ⟨b, o, rfl, hcc, _⟩ := hs.some (by omega)
    have hcap : 19 ≤ cap := hs.2.1
    obtain ⟨y1, y2, y3, y4, p, m1, m2, q, d1, d2, r, t, rfl, htl⟩ := list19 l hs.1.symm
    have kp := hcc 4 (by omega)
    have kq := hcc 7 (by omega)
    have kr := hcc 10 (by omega)
    simp only [List.getD_cons_succ, List.getD_cons_zero] at kp kq kr
    have HS := Lib.hid hs
    have HT := Lib.hid htl
    have bp := p.toNat_lt
    have bq := q.toNat_lt
    have br := r.toNat_lt
    clear hcc hs hl htl
    by_cases hp : p.toNat = 45
    ·
      have hp' : p = 45 := UInt8.toNat_inj.1 (by simpa using hp)
      subst hp'
      clear hp bp
      by_cases hq : q.toNat = 45
      ·
        have hq' : q = 45 := UInt8.toNat_inj.1 (by simpa using hq)
        subst hq'
        clear hq bq
        by_cases hr : r.toNat = 95
        ·
          have hr' : r = 95 := UInt8.toNat_inj.1 (by simpa using hr)
          subst hr'
          clear hr br
          have HK := Lib.hid (show R = (twoB y1 y2 && twoB y3 y4 && twoB m1 m2 && twoB d1 d2 && clockOk t && decide (1 ≤ two2 m1 m2 ∧ two2 m1 m2 ≤ 12 ∧ 1 ≤ two2 d1 d2 ∧ (two2 d1 d2 : Int) ≤ dim (100 * two2 y1 y2 + two2 y3 y4 : Nat) (two2 m1 m2 : Nat))) by rw [HR.out]; simp [dateOk, twoB, Bool.and_assoc])
          have HN := Lib.hid (show R = true → V = (dby (100 * two2 y1 y2 + two2 y3 y4 : Nat) + ((two2 d1 d2 : Nat) - 1 : Int) + cum (100 * two2 y1 y2 + two2 y3 y4 : Nat) (two2 m1 m2)) * 86400 + clockV t by
            intro h
            have hc : clockOk t = true := by have := HK.out; rw [h] at this; revert this; cases clockOk t <;> simp
            rw [HV.out, dateV, ← HR.out, h, if_pos rfl, dateN, clockV, hc, if_pos rfl])
          clear HR HV
          have v0 := twoV_le y1 y2
          have t0 := Lib.hid (twoV_true y1 y2)
          obtain ⟨B1, hB0⟩ : ∃ x, x = twoB y1 y2 := ⟨_, rfl⟩
          obtain ⟨C, hX0⟩ : ∃ x, x = twoV y1 y2 := ⟨_, rfl⟩
          rw [← hX0] at v0 t0
          rw [← hB0] at t0 HK
          have W0 := Lib.hid (And.intro hB0 hX0)
          clear hB0 hX0
          have v1 := twoV_le y3 y4
          have t1 := Lib.hid (twoV_true y3 y4)
          obtain ⟨B2, hB1⟩ : ∃ x, x = twoB y3 y4 := ⟨_, rfl⟩
          obtain ⟨E, hX1⟩ : ∃ x, x = twoV y3 y4 := ⟨_, rfl⟩
          rw [← hX1] at v1 t1
          rw [← hB1] at t1 HK
          have W1 := Lib.hid (And.intro hB1 hX1)
          clear hB1 hX1
          have v2 := twoV_le m1 m2
          have t2 := Lib.hid (twoV_true m1 m2)
          obtain ⟨B3, hB2⟩ : ∃ x, x = twoB m1 m2 := ⟨_, rfl⟩
          obtain ⟨M, hX2⟩ : ∃ x, x = twoV m1 m2 := ⟨_, rfl⟩
          rw [← hX2] at v2 t2
          rw [← hB2] at t2 HK
          have W2 := Lib.hid (And.intro hB2 hX2)
          clear hB2 hX2
          have v3 := twoV_le d1 d2
          have t3 := Lib.hid (twoV_true d1 d2)
          obtain ⟨B4, hB3⟩ : ∃ x, x = twoB d1 d2 := ⟨_, rfl⟩
          obtain ⟨D, hX3⟩ : ∃ x, x = twoV d1 d2 := ⟨_, rfl⟩
          rw [← hX3] at v3 t3
          rw [← hB3] at t3 HK
          have W3 := Lib.hid (And.intro hB3 hX3)
          clear hB3 hX3
          have bcv := clockV_bd t
          obtain ⟨CO, hCO⟩ : ∃ x, x = clockOk t := ⟨_, rfl⟩
          obtain ⟨CV, hCV⟩ : ∃ x, x = clockV t := ⟨_, rfl⟩
          rw [← hCO] at HK
          rw [← hCV] at HN bcv
          obtain ⟨bcv1, bcv2⟩ := bcv
          have WC := Lib.hid (And.intro hCO hCV)
          clear hCO hCV
          go_enter Tryd.func30, Tryd.ntmps30
          go_wp2_with fail
          refine (two_any _ _ _ _ _ y1 y2 _ HS.out (by omega) (by omega) (by omega) rfl rfl).mono ?_
          rintro e w1 ⟨rfl, hb1⟩
          rw [← W0.out.1, ← W0.out.2]
          have hW1 := hb1
          go_wp2_with fail
          refine (two_any _ _ _ _ _ y3 y4 _ (HS.out.after hW1) (by omega) (by omega) (by omega) rfl rfl).mono ?_
          rintro e w2 ⟨rfl, hb2⟩
          rw [← W1.out.1, ← W1.out.2]
          have hW2 := hW1.trans (hb2.mono hW1.size)
          go_wp2_with fail
          refine (two_any _ _ _ _ _ m1 m2 _ (HS.out.after hW2) (by omega) (by omega) (by omega) rfl rfl).mono ?_
          rintro e w3 ⟨rfl, hb3⟩
          rw [← W2.out.1, ← W2.out.2]
          have hW3 := hW2.trans (hb3.mono hW2.size)
          go_wp2_with fail
          refine (two_any _ _ _ _ _ d1 d2 _ (HS.out.after hW3) (by omega) (by omega) (by omega) rfl rfl).mono ?_
          rintro e w4 ⟨rfl, hb4⟩
          rw [← W3.out.1, ← W3.out.2]
          have hW4 := hW3.trans (hb4.mono hW3.size)
          go_wp2_with fail
          have tt := (HS.out.after hW4).sub 11 19 (by omega) (by omega)
          simp only [List.drop_succ_cons, List.drop_zero] at tt
          rw [List.take_of_length_le (by rw [HT.out]; omega)] at tt
          refine (refClock_any _ _ _ t _ tt (by rw [HT.out]; omega)).mono ?_
          rintro e w5 ⟨rfl, hb5⟩
          rw [← WC.out.1, ← WC.out.2]
          have hW := hW4.trans (hb5.mono hW4.size)
          clear W0 W1 W2 W3 WC tt kp kq kr
          cases eB1 : B1 with
          | false =>
            have HE := Lib.hid (show R = false by rw [HK.out, eB1]; simp)
            have HZ := Lib.hid (fin.out HE.out)
            go_wp2_with fail
            go_ret2
            exact ⟨by rw [HE.out, HZ.out]; rfl, hW⟩
          | true =>
            cases eB2 : B2 with
            | false =>
              have HE := Lib.hid (show R = false by rw [HK.out, eB2]; simp)
              have HZ := Lib.hid (fin.out HE.out)
              go_wp2_with fail
              go_ret2
              exact ⟨by rw [HE.out, HZ.out]; rfl, hW⟩
            | true =>
              cases eB3 : B3 with
              | false =>
                have HE := Lib.hid (show R = false by rw [HK.out, eB3]; simp)
                have HZ := Lib.hid (fin.out HE.out)
                go_wp2_with fail
                go_ret2
                exact ⟨by rw [HE.out, HZ.out]; rfl, hW⟩
              | true =>
                cases eB4 : B4 with
                | false =>
                  have HE := Lib.hid (show R = false by rw [HK.out, eB4]; simp)
                  have HZ := Lib.hid (fin.out HE.out)
                  go_wp2_with fail
                  go_ret2
                  exact ⟨by rw [HE.out, HZ.out]; rfl, hW⟩
                | true =>
                  cases eCO : CO with
                  | false =>
                    have HE := Lib.hid (show R = false by rw [HK.out, eCO]; simp)
                    have HZ := Lib.hid (fin.out HE.out)
                    go_wp2_with fail
                    go_ret2
                    exact ⟨by rw [HE.out, HZ.out]; rfl, hW⟩
                  | true =>
                    have T1 := Lib.hid (t0.out eB1)
                    have T2 := Lib.hid (t1.out eB2)
                    have T3 := Lib.hid (t2.out eB3)
                    have T4 := Lib.hid (t3.out eB4)
                    obtain ⟨Y, hY⟩ : ∃ Y, Y = 100 * two2 y1 y2 + two2 y3 y4 := ⟨_, rfl⟩
                    have bY : (Y : Int) = 100 * C + E := by have := T1.out; have := T2.out; omega
                    obtain ⟨Mn, hMn⟩ : ∃ Mn, Mn = two2 m1 m2 := ⟨_, rfl⟩
                    have bM : (Mn : Int) = M := by have := T3.out; omega
                    obtain ⟨Dn, hDn⟩ : ∃ Dn, Dn = two2 d1 d2 := ⟨_, rfl⟩
                    have bD : (Dn : Int) = D := by have := T4.out; omega
                    replace HK := Lib.hid (show R = decide (1 ≤ M ∧ M ≤ 12 ∧ 1 ≤ D ∧ D ≤ dim (Y : Nat) (Mn : Nat)) by
                      have hiff : (1 ≤ Mn ∧ Mn ≤ 12 ∧ 1 ≤ Dn ∧ (Dn : Int) ≤ dim (Y : Nat) (Mn : Nat)) ↔ (1 ≤ M ∧ M ≤ 12 ∧ 1 ≤ D ∧ D ≤ dim (Y : Nat) (Mn : Nat)) := by rw [← bD]; omega
                      rw [HK.out, eB1, eB2, eB3, eB4, eCO, ← hY, ← hMn, ← hDn]
                      simp [hiff])
                    replace HN := Lib.hid (show R = true → V = (dby (Y : Nat) + (D - 1) + cum (Y : Nat) Mn) * 86400 + CV by
                      intro h; rw [HN.out h, ← hY, ← hMn, ← bD, hDn])
                    have BY := Lib.hid bY
                    have BM := Lib.hid bM
                    have by9 : 0 ≤ 100 * C + E ∧ 100 * C + E ≤ 9999 := by omega
                    clear t0 t1 t2 t3 T1 T2 T3 T4 hY hMn hDn bY bM bD
                    by_cases x1 : 1 ≤ M
                    ·
                      by_cases x2 : M ≤ 12
                      ·
                        by_cases x3 : 1 ≤ D
                        ·
                          have bd := dim_bd (Y : Nat) (Mn : Nat)
                          obtain ⟨L, hL⟩ : ∃ L, L = dim (Y : Nat) (Mn : Nat) := ⟨_, rfl⟩
                          rw [← hL] at bd HK
                          have HLL := Lib.hid hL
                          clear hL
                          by_cases x4 : D ≤ L
                          ·
                            have HE := Lib.hid (show R = true by rw [HK.out]; simp [x1, x2, x3, x4])
                            have HZ := Lib.hid (HN.out HE.out)
                            go_wp2_with fail
                            rw [← BY.out, ← BM.out]
                            refine (refDays_any _ _ _ (by omega) (by have := BM.out; omega) (by have := BM.out; omega)).mono ?_
                            rintro e w6 ⟨rfl, hb6⟩
                            rw [← HLL.out]
                            have hWd := hW.trans (hb6.mono hW.size)
                            go_wp2_with fail
                            refine (refahead_any _ _ (by omega) (by have := BY.out; omega)).mono ?_
                            rintro e w7 ⟨rfl, hb7⟩
                            have hWA := hWd.trans (hb7.mono hWd.size)
                            have by1 := dby_bd (Y : Nat) (by omega) (by have := BY.out; omega)
                            obtain ⟨A0, hA0⟩ : ∃ A0, A0 = dby (Y : Nat) := ⟨_, rfl⟩
                            rw [← hA0]
                            rw [← hA0] at by1
                            have HA0 := Lib.hid hA0.symm
                            clear hA0
                            have bMM : (Mn : Int) ≤ 12 := by have := BM.out; omega
                            have bMM1 : (1 : Int) ≤ (Mn : Int) := by have := BM.out; omega
                            go_wp2_with fail
                            go_loopw [15, 16] (fun s k wr => ∃ j : Nat, 1 ≤ j ∧ j ≤ Mn ∧ k = .int .i64 j ∧ s = .int .i64 (A0 + D - 1 + cum (Y : Nat) j) ∧ Below w.heap.size w wr) (fun _ k _ => Mn - (intOf k).toNat)
                            case atStart => exact ⟨1, by omega, by omega, rfl, by simp [cum], hWA⟩
                            case round =>
                              obtain ⟨j, hj1, hj2, rfl, rfl, hWr⟩ := hrel
                              have cb := cum_bd (Y : Nat) j
                              have cs := Lib.hid (cum_succ (Y : Nat) j hj1)
                              obtain ⟨Q, hQ⟩ : ∃ Q, Q = cum (Y : Nat) j := ⟨_, rfl⟩
                              rw [← hQ]
                              rw [← hQ] at cb cs
                              have HQ := Lib.hid hQ
                              clear hQ
                              by_cases hlt : j < Mn
                              · have db := dim_bd (Y : Nat) (j : Nat)
                                go_wp2_with fail
                                refine (refDays_any _ _ _ (by omega) (by omega) (by omega)).mono ?_
                                rintro e w9 ⟨rfl, hb9⟩
                                obtain ⟨P, hP⟩ : ∃ P, P = dim (Y : Nat) (j : Nat) := ⟨_, rfl⟩
                                rw [← hP]
                                rw [← hP] at db cs
                                clear hP
                                have hW9 := hWr.trans (hb9.mono hWr.size)
                                go_wp2_with fail
                                go_roundw
                                case rel => exact ⟨j + 1, by omega, by omega, by go_num, by rw [cs.out]; go_num, hW9⟩
                                case measure => simp [intOf]; omega
                              · obtain rfl : j = Mn := by omega
                                have HZ2 := Lib.hid (show V = (A0 + D - 1 + Q) * 86400 + CV by rw [HZ.out, HA0.out, HQ.out, show A0 + (D - 1) = A0 + D - 1 by omega])
                                go_wp2_with fail
                                go_ret2
                                exact ⟨by rw [HE.out, HZ2.out]; rfl, hWr⟩
                          ·
                            have HE := Lib.hid (show R = false by rw [HK.out]; simp [x4])
                            have HZ := Lib.hid (fin.out HE.out)
                            replace x4 : L < D := by omega
                            go_wp2_with fail
                            rw [← BY.out, ← BM.out]
                            refine (refDays_any _ _ _ (by omega) (by have := BM.out; omega) (by have := BM.out; omega)).mono ?_
                            rintro e w6 ⟨rfl, hb6⟩
                            rw [← HLL.out]
                            have hWd := hW.trans (hb6.mono hW.size)
                            go_wp2_with fail
                            go_ret2
                            exact ⟨by rw [HE.out, HZ.out]; rfl, hWd⟩
                        ·
                          have HE := Lib.hid (show R = false by rw [HK.out]; simp [x3])
                          have HZ := Lib.hid (fin.out HE.out)
                          replace x3 : D < 1 := by omega
                          go_wp2_with fail
                          go_ret2
                          exact ⟨by rw [HE.out, HZ.out]; rfl, hW⟩
                      ·
                        have HE := Lib.hid (show R = false by rw [HK.out]; simp [x2])
                        have HZ := Lib.hid (fin.out HE.out)
                        replace x2 : 12 < M := by omega
                        go_wp2_with fail
                        go_ret2
                        exact ⟨by rw [HE.out, HZ.out]; rfl, hW⟩
                    ·
                      have HE := Lib.hid (show R = false by rw [HK.out]; simp [x1])
                      have HZ := Lib.hid (fin.out HE.out)
                      replace x1 : M < 1 := by omega
                      go_wp2_with fail
                      go_ret2
                      exact ⟨by rw [HE.out, HZ.out]; rfl, hW⟩
        ·
          have hxf : (r == 95) = false := by simpa [← UInt8.toNat_inj] using hr
          have HE := Lib.hid (show R = false by rw [HR.out]; simp [dateOk, hxf])
          have HZ := Lib.hid (fin.out HE.out)
          have qq : ((r.toNat : Int) != 95) = true := by rw [bne_iff_ne]; omega
          go_enter Tryd.func30, Tryd.ntmps30
          go_wp2_with fail
          go_ret2
          exact ⟨by rw [HE.out, HZ.out]; rfl, Below.refl _ _⟩
      ·
        have hxf : (q == 45) = false := by simpa [← UInt8.toNat_inj] using hq
        have HE := Lib.hid (show R = false by rw [HR.out]; simp [dateOk, hxf])
        have HZ := Lib.hid (fin.out HE.out)
        have qq : ((q.toNat : Int) != 45) = true := by rw [bne_iff_ne]; omega
        go_enter Tryd.func30, Tryd.ntmps30
        go_wp2_with fail
        go_ret2
        exact ⟨by rw [HE.out, HZ.out]; rfl, Below.refl _ _⟩
    ·
      have hxf : (p == 45) = false := by simpa [← UInt8.toNat_inj] using hp
      have HE := Lib.hid (show R = false by rw [HR.out]; simp [dateOk, hxf])
      have HZ := Lib.hid (fin.out HE.out)
      have qq : ((p.toNat : Int) != 45) = true := by rw [bne_iff_ne]; omega
      go_enter Tryd.func30, Tryd.ntmps30
      go_wp2_with fail
      go_ret2
      exact ⟨by rw [HE.out, HZ.out]; rfl, Below.refl _ _⟩
  · have HE := Lib.hid (show R = false by rw [HR.out]; exact dateOk_len l (by rw [← hs.1]; exact hlen))
    have HZ := Lib.hid (fin.out HE.out)
    have qq : ((len : Int) != 19) = true := by rw [bne_iff_ne]; omega
    go_enter Tryd.func30, Tryd.ntmps30
    go_wp2_with fail
    go_ret2
    exact ⟨by rw [HE.out, HZ.out]; rfl, Below.refl _ _⟩
end Go.Proofs.YtoadpeigomkgiaaDoor

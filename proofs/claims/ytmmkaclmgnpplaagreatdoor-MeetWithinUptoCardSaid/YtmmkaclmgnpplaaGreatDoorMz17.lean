import Derived.Test.YtmmkaclmgnpplaaGreatDoorMz16
set_option maxRecDepth 100000
set_option maxHeartbeats 64000000
set_option linter.unusedSimpArgs false
set_option linter.unusedVariables false
namespace Go.Proofs.YtmmkaclmgnpplaaGreatDoor
open Go.RowKit
theorem lg (l : List UInt8) (h : l.length ≠ 8) : clockOk l = false := by
 unfold clockOk
 split
 ·simp at h
 ·rfl
theorem rY (l : List UInt8) (h : l.length ≠ 19) : dateOk l = false := by
 unfold dateOk
 split
 ·rename_i t
  rw [lg t (by intro ht; apply h; simp [ht])]
  simp
 ·rfl
theorem gD (a b : UInt8) : 0 ≤ twoV a b ∧ twoV a b ≤ 99 := by
 unfold twoV
 cases h : twoB a b with
 | false => simp
 | true =>
  rw [if_pos rfl]
  have h1 : isD_XDateMath a = true ∧ isD_XDateMath b = true := by simpa [twoB] using h
  have := fP a b h1.1 h1.2
  omega
theorem ec (a b : UInt8) (h : twoB a b = true) : twoV a b = (two2 a b : Nat) := by unfold twoV; rw [if_pos h]
theorem bJ (a : Option Addr) (len cap : Nat) (l : List UInt8) (w : World) (hs : Sl w a len cap l) (hl : l.length ≤ 9223372036854775807) :
  Calls Tryz.prog 131 #[.slice a len cap] w fun e w' => e = .returned (.tuple #[.int .i64 (clockV l), .bool (clockOk l)]) ∧ Below w.heap.size w w' := by
 obtain ⟨R, hR⟩ : ∃ R, R = clockOk l := ⟨_, rfl⟩
 obtain ⟨V, hV⟩ : ∃ V, V = clockV l := ⟨_, rfl⟩
 rw [← hR, ← hV]
 have HR := I5 hR
 have HV := I5 hV
 have fin : Hid (R = false → V = 0) := I5 (by intro h; rw [hV, clockV, ← hR, h]; rfl)
 clear hR hV
 by_cases dh : len = 8
 ·subst dh
  have Hh : l.length = 8 := hs.1.symm
  obtain ⟨b, o, rfl, iM, _⟩ := hs.some (by omega)
  have na : 8 ≤ cap := hs.2.1
  match l, Hh with
  | [c1, c2, p, c3, c4, q, c5, c6], _ =>
  have kp := iM 2 (by omega)
  have kq := iM 5 (by omega)
  simp only [List.getD_cons_succ, List.getD_cons_zero] at kp kq
  have HS := I5 hs
  have bp := p.toNat_lt
  have bq := q.toNat_lt
  clear iM hs hl
  by_cases hp : p.toNat = 58
  ·have hp' : p = 58 := UInt8.toNat_inj.1 (by simpa using hp)
   subst hp'
   by_cases hq : q.toNat = 58
   ·have hq' : q = 58 := UInt8.toNat_inj.1 (by simpa using hq)
    subst hq'
    clear hp hq bp bq
    have HK := I5 (show R = (twoB c1 c2 && twoB c3 c4 && twoB c5 c6 && decide (two2 c1 c2 ≤ 23 ∧ two2 c3 c4 ≤ 59 ∧ two2 c5 c6 ≤ 59)) by rw [HR.out]; simp [clockOk, twoB, Bool.and_assoc])
    have HN := I5 (show R = true → V = 3600 * (two2 c1 c2 : Nat) + 60 * (two2 c3 c4 : Nat) + (two2 c5 c6 : Nat) by intro h; rw [HV.out, clockV, ← HR.out, h, if_pos rfl]; rfl)
    clear HR HV
    have v1 := gD c1 c2
    have v2 := gD c3 c4
    have v3 := gD c5 c6
    have t1 := I5 (ec c1 c2)
    have t2 := I5 (ec c3 c4)
    have t3 := I5 (ec c5 c6)
    obtain ⟨B1, ux⟩ : ∃ x, x = twoB c1 c2 := ⟨_, rfl⟩
    obtain ⟨B2, mO⟩ : ∃ x, x = twoB c3 c4 := ⟨_, rfl⟩
    obtain ⟨B3, xG⟩ : ∃ x, x = twoB c5 c6 := ⟨_, rfl⟩
    obtain ⟨H, hH⟩ : ∃ x, x = twoV c1 c2 := ⟨_, rfl⟩
    obtain ⟨M, hM⟩ : ∃ x, x = twoV c3 c4 := ⟨_, rfl⟩
    obtain ⟨S, hS⟩ : ∃ x, x = twoV c5 c6 := ⟨_, rfl⟩
    rw [← hH] at v1 t1
    rw [← hM] at v2 t2
    rw [← hS] at v3 t3
    rw [← ux] at t1 HK
    rw [← mO] at t2 HK
    rw [← xG] at t3 HK
    have W1 := I5 (And.intro ux hH)
    have W2 := I5 (And.intro mO hM)
    have W3 := I5 (And.intro xG hS)
    clear ux mO xG hH hM hS
    go_enter Tryz.func131, Tryz.ntmps131
    go_wp2_with fail
    refine (gC _ _ _ _ _ c1 c2 _ HS.out (by omega) (by omega) (by omega) rfl rfl).mono ?_
    rintro e w1 ⟨rfl, af⟩
    rw [← W1.out.1, ← W1.out.2]
    go_wp2_with fail
    refine (gC _ _ _ _ _ c3 c4 _ (HS.out.after af) (by omega) (by omega) (by omega) rfl rfl).mono ?_
    rintro e w2 ⟨rfl, aK⟩
    rw [← W2.out.1, ← W2.out.2]
    have bE := af.trans (aK.mono af.size)
    go_wp2_with fail
    refine (gC _ _ _ _ _ c5 c6 _ (HS.out.after bE) (by omega) (by omega) (by omega) rfl rfl).mono ?_
    rintro e w3 ⟨rfl, bK⟩
    rw [← W3.out.1, ← W3.out.2]
    have gl := bE.trans (bK.mono bE.size)
    clear W1 W2 W3
    cases e1 : B1 with
    | false =>
     have HE := I5 (show R = false by rw [HK.out, e1]; simp)
     have HZ := I5 (fin.out HE.out)
     go_wp2_with fail
     go_ret2
     exact ⟨by rw [HE.out, HZ.out]; rfl, gl⟩
    | true =>
     cases e2 : B2 with
     | false =>
      have HE := I5 (show R = false by rw [HK.out, e2]; simp)
      have HZ := I5 (fin.out HE.out)
      go_wp2_with fail
      go_ret2
      exact ⟨by rw [HE.out, HZ.out]; rfl, gl⟩
     | true =>
      cases e3 : B3 with
      | false =>
       have HE := I5 (show R = false by rw [HK.out, e3]; simp)
       have HZ := I5 (fin.out HE.out)
       go_wp2_with fail
       go_ret2
       exact ⟨by rw [HE.out, HZ.out]; rfl, gl⟩
      | true =>
       have T1 := I5 (t1.out e1)
       have T2 := I5 (t2.out e2)
       have T3 := I5 (t3.out e3)
       replace HK := I5 (show R = decide (H ≤ 23 ∧ M ≤ 59 ∧ S ≤ 59) by
        have AK : (two2 c1 c2 ≤ 23 ∧ two2 c3 c4 ≤ 59 ∧ two2 c5 c6 ≤ 59) ↔ (H ≤ 23 ∧ M ≤ 59 ∧ S ≤ 59) := by rw [T1.out, T2.out, T3.out]; omega
        rw [HK.out, e1, e2, e3]
        simp [AK])
       clear t1 t2 t3
       by_cases x1 : H ≤ 23
       ·
        by_cases x2 : M ≤ 59
        ·
         by_cases x3 : S ≤ 59
         ·
          have HE := I5 (show R = true by rw [HK.out]; simp [x1, x2, x3])
          have HZ := I5 (show V = 3600 * H + 60 * M + S by rw [HN.out HE.out, ← T1.out, ← T2.out, ← T3.out])
          go_wp2_with fail
          go_ret2
          exact ⟨by rw [HE.out, HZ.out]; rfl, gl⟩
         ·
          have HE := I5 (show R = false by rw [HK.out]; simp [x3])
          have HZ := I5 (fin.out HE.out)
          replace x3 : (59 : Int) < S := by omega
          go_wp2_with fail
          go_ret2
          exact ⟨by rw [HE.out, HZ.out]; rfl, gl⟩
        ·
         have HE := I5 (show R = false by rw [HK.out]; simp [x2])
         have HZ := I5 (fin.out HE.out)
         replace x2 : (59 : Int) < M := by omega
         go_wp2_with fail
         go_ret2
         exact ⟨by rw [HE.out, HZ.out]; rfl, gl⟩
       ·
        have HE := I5 (show R = false by rw [HK.out]; simp [x1])
        have HZ := I5 (fin.out HE.out)
        replace x1 : (23 : Int) < H := by omega
        go_wp2_with fail
        go_ret2
        exact ⟨by rw [HE.out, HZ.out]; rfl, gl⟩
   ·
    have HE := I5 (show R = false by
     have Hb : (q == 58) = false := by simpa [← UInt8.toNat_inj] using hq
     rw [HR.out]; simp [clockOk, Hb])
    have HZ := I5 (fin.out HE.out)
    have qq : ((q.toNat : Int) != 58) = true := by rw [bne_iff_ne]; omega
    go_enter Tryz.func131, Tryz.ntmps131
    go_wp2_with fail
    go_ret2
    exact ⟨by rw [HE.out, HZ.out]; rfl, Below.refl _ _⟩
  ·
   have HE := I5 (show R = false by
    have He : (p == 58) = false := by simpa [← UInt8.toNat_inj] using hp
    rw [HR.out]; simp [clockOk, He])
   have HZ := I5 (fin.out HE.out)
   have qq : ((p.toNat : Int) != 58) = true := by rw [bne_iff_ne]; omega
   go_enter Tryz.func131, Tryz.ntmps131
   go_wp2_with fail
   go_ret2
   exact ⟨by rw [HE.out, HZ.out]; rfl, Below.refl _ _⟩
 ·
  have HE := I5 (show R = false by
   rw [HR.out]; exact lg l (by rw [← hs.1]; exact dh))
  have HZ := I5 (fin.out HE.out)
  have qq : ((len : Int) != 8) = true := by rw [bne_iff_ne]; omega
  go_enter Tryz.func131, Tryz.ntmps131
  go_wp2_with fail
  go_ret2
  exact ⟨by rw [HE.out, HZ.out]; rfl, Below.refl _ _⟩
theorem Ao (l : List UInt8) (h : l.length = 19) : ∃ y1 y2 y3 y4 p m1 m2 q d1 d2 r t, l = y1 :: y2 :: y3 :: y4 :: p :: m1 :: m2 :: q :: d1 :: d2 :: r :: t ∧ t.length = 8 := by
 match l, h with
 | y1 :: y2 :: y3 :: y4 :: p :: m1 :: m2 :: q :: d1 :: d2 :: r :: t, h => exact ⟨y1, y2, y3, y4, p, m1, m2, q, d1, d2, r, t, rfl, by simpa using h⟩
theorem uW (t : List UInt8) : 0 ≤ clockV t ∧ clockV t ≤ 1000000 := by
 unfold clockV
 cases hc : clockOk t with
 | false => simp
 | true =>
  obtain ⟨c1, c2, c3, c4, c5, c6, rfl, _, _, _, _, _, _⟩ := jr t (j7 t hc)
  simp [clockOk] at hc
  simp [clockN]; omega
theorem cg (a : Option Addr) (len cap : Nat) (l : List UInt8) (w : World) (hs : Sl w a len cap l) (hl : l.length ≤ 9223372036854775807) :
  Calls Tryz.prog 133 #[.slice a len cap] w fun e w' => e = .returned (.tuple #[.int .i64 (dateV l), .bool (dateOk l)]) ∧ Below w.heap.size w w' := by
 obtain ⟨R, hR⟩ : ∃ R, R = dateOk l := ⟨_, rfl⟩
 obtain ⟨V, hV⟩ : ∃ V, V = dateV l := ⟨_, rfl⟩
 rw [← hR, ← hV]
 have HR := I5 hR
 have HV := I5 hV
 have fin : Hid (R = false → V = 0) := I5 (by intro h; rw [hV, dateV, ← hR, h]; rfl)
 clear hR hV
 by_cases dh : len = 19
 ·subst dh
  obtain ⟨b, o, rfl, iM, _⟩ := hs.some (by omega)
  have na : 19 ≤ cap := hs.2.1
  obtain ⟨y1, y2, y3, y4, p, m1, m2, q, d1, d2, r, t, rfl, Bw⟩ := Ao l hs.1.symm
  have kp := iM 4 (by omega)
  have kq := iM 7 (by omega)
  have kr := iM 10 (by omega)
  simp only [List.getD_cons_succ, List.getD_cons_zero] at kp kq kr
  have HS := I5 hs
  have HT := I5 Bw
  have bp := p.toNat_lt
  have bq := q.toNat_lt
  have br := r.toNat_lt
  clear iM hs hl Bw
  by_cases hp : p.toNat = 45
  ·
   have hp' : p = 45 := UInt8.toNat_inj.1 (by simpa using hp)
   subst hp'
   clear hp bp
   by_cases hq : q.toNat = 45
   ·
    have hq' : q = 45 := UInt8.toNat_inj.1 (by simpa using hq)
    subst hq'
    clear hq bq
    by_cases hr : r.toNat = 95
    ·
     have hr' : r = 95 := UInt8.toNat_inj.1 (by simpa using hr)
     subst hr'
     clear hr br
     have HK := I5 (show R = (twoB y1 y2 && twoB y3 y4 && twoB m1 m2 && twoB d1 d2 && clockOk t && decide (1 ≤ two2 m1 m2 ∧ two2 m1 m2 ≤ 12 ∧ 1 ≤ two2 d1 d2 ∧ (two2 d1 d2 : Int) ≤ dim (100 * two2 y1 y2 + two2 y3 y4 : Nat) (two2 m1 m2 : Nat))) by rw [HR.out]; simp [dateOk, twoB, Bool.and_assoc])
     have HN := I5 (show R = true → V = (dby (100 * two2 y1 y2 + two2 y3 y4 : Nat) + ((two2 d1 d2 : Nat) - 1 : Int) + cum (100 * two2 y1 y2 + two2 y3 y4 : Nat) (two2 m1 m2)) * 86400 + clockV t by
      intro h
      have hc : clockOk t = true := by have := HK.out; rw [h] at this; revert this; cases clockOk t <;> simp
      rw [HV.out, dateV, ← HR.out, h, if_pos rfl, dateN, clockV, hc, if_pos rfl])
     clear HR HV
     have v0 := gD y1 y2
     have t0 := I5 (ec y1 y2)
     obtain ⟨B1, qd⟩ : ∃ x, x = twoB y1 y2 := ⟨_, rfl⟩
     obtain ⟨C, EO⟩ : ∃ x, x = twoV y1 y2 := ⟨_, rfl⟩
     rw [← EO] at v0 t0
     rw [← qd] at t0 HK
     have W0 := I5 (And.intro qd EO)
     clear qd EO
     have v1 := gD y3 y4
     have t1 := I5 (ec y3 y4)
     obtain ⟨B2, ux⟩ : ∃ x, x = twoB y3 y4 := ⟨_, rfl⟩
     obtain ⟨E, EN⟩ : ∃ x, x = twoV y3 y4 := ⟨_, rfl⟩
     rw [← EN] at v1 t1
     rw [← ux] at t1 HK
     have W1 := I5 (And.intro ux EN)
     clear ux EN
     have v2 := gD m1 m2
     have t2 := I5 (ec m1 m2)
     obtain ⟨B3, mO⟩ : ∃ x, x = twoB m1 m2 := ⟨_, rfl⟩
     obtain ⟨M, hX2⟩ : ∃ x, x = twoV m1 m2 := ⟨_, rfl⟩
     rw [← hX2] at v2 t2
     rw [← mO] at t2 HK
     have W2 := I5 (And.intro mO hX2)
     clear mO hX2
     have v3 := gD d1 d2
     have t3 := I5 (ec d1 d2)
     obtain ⟨B4, xG⟩ : ∃ x, x = twoB d1 d2 := ⟨_, rfl⟩
     obtain ⟨D, EM⟩ : ∃ x, x = twoV d1 d2 := ⟨_, rfl⟩
     rw [← EM] at v3 t3
     rw [← xG] at t3 HK
     have W3 := I5 (And.intro xG EM)
     clear xG EM
     have bcv := uW t
     obtain ⟨CO, zQ⟩ : ∃ x, x = clockOk t := ⟨_, rfl⟩
     obtain ⟨CV, zP⟩ : ∃ x, x = clockV t := ⟨_, rfl⟩
     rw [← zQ] at HK
     rw [← zP] at HN bcv
     obtain ⟨bcv1, bcv2⟩ := bcv
     have WC := I5 (And.intro zQ zP)
     clear zQ zP
     go_enter Tryz.func133, Tryz.ntmps133
     go_wp2_with fail
     refine (gC _ _ _ _ _ y1 y2 _ HS.out (by omega) (by omega) (by omega) rfl rfl).mono ?_
     rintro e w1 ⟨rfl, af⟩
     rw [← W0.out.1, ← W0.out.2]
     have jq := af
     go_wp2_with fail
     refine (gC _ _ _ _ _ y3 y4 _ (HS.out.after jq) (by omega) (by omega) (by omega) rfl rfl).mono ?_
     rintro e w2 ⟨rfl, aK⟩
     rw [← W1.out.1, ← W1.out.2]
     have bE := jq.trans (aK.mono jq.size)
     go_wp2_with fail
     refine (gC _ _ _ _ _ m1 m2 _ (HS.out.after bE) (by omega) (by omega) (by omega) rfl rfl).mono ?_
     rintro e w3 ⟨rfl, bK⟩
     rw [← W2.out.1, ← W2.out.2]
     have gl := bE.trans (bK.mono bE.size)
     go_wp2_with fail
     refine (gC _ _ _ _ _ d1 d2 _ (HS.out.after gl) (by omega) (by omega) (by omega) rfl rfl).mono ?_
     rintro e w4 ⟨rfl, hb4⟩
     rw [← W3.out.1, ← W3.out.2]
     have nb := gl.trans (hb4.mono gl.size)
     go_wp2_with fail
     have tt := (HS.out.after nb).sub 11 19 (by omega) (by omega)
     simp only [List.drop_succ_cons, List.drop_zero] at tt
     rw [List.take_of_length_le (by rw [HT.out]; omega)] at tt
     refine (bJ _ _ _ t _ tt (by rw [HT.out]; omega)).mono ?_
     rintro e w5 ⟨rfl, hb5⟩
     rw [← WC.out.1, ← WC.out.2]
     have hW := nb.trans (hb5.mono nb.size)
     clear W0 W1 W2 W3 WC tt kp kq kr
     cases eB1 : B1 with
     | false =>
      have HE := I5 (show R = false by rw [HK.out, eB1]; simp)
      have HZ := I5 (fin.out HE.out)
      go_wp2_with fail
      go_ret2
      exact ⟨by rw [HE.out, HZ.out]; rfl, hW⟩
     | true =>
      cases eB2 : B2 with
      | false =>
       have HE := I5 (show R = false by rw [HK.out, eB2]; simp)
       have HZ := I5 (fin.out HE.out)
       go_wp2_with fail
       go_ret2
       exact ⟨by rw [HE.out, HZ.out]; rfl, hW⟩
      | true =>
       cases eB3 : B3 with
       | false =>
        have HE := I5 (show R = false by rw [HK.out, eB3]; simp)
        have HZ := I5 (fin.out HE.out)
        go_wp2_with fail
        go_ret2
        exact ⟨by rw [HE.out, HZ.out]; rfl, hW⟩
       | true =>
        cases eB4 : B4 with
        | false =>
         have HE := I5 (show R = false by rw [HK.out, eB4]; simp)
         have HZ := I5 (fin.out HE.out)
         go_wp2_with fail
         go_ret2
         exact ⟨by rw [HE.out, HZ.out]; rfl, hW⟩
        | true =>
         cases eCO : CO with
         | false =>
          have HE := I5 (show R = false by rw [HK.out, eCO]; simp)
          have HZ := I5 (fin.out HE.out)
          go_wp2_with fail
          go_ret2
          exact ⟨by rw [HE.out, HZ.out]; rfl, hW⟩
         | true =>
          have T1 := I5 (t0.out eB1)
          have T2 := I5 (t1.out eB2)
          have T3 := I5 (t2.out eB3)
          have T4 := I5 (t3.out eB4)
          obtain ⟨Y, hY⟩ : ∃ Y, Y = 100 * two2 y1 y2 + two2 y3 y4 := ⟨_, rfl⟩
          have bY : (Y : Int) = 100 * C + E := by have := T1.out; have := T2.out; omega
          obtain ⟨Mn, EX⟩ : ∃ Mn, Mn = two2 m1 m2 := ⟨_, rfl⟩
          have bM : (Mn : Int) = M := by have := T3.out; omega
          obtain ⟨Dn, E0⟩ : ∃ Dn, Dn = two2 d1 d2 := ⟨_, rfl⟩
          have bD : (Dn : Int) = D := by have := T4.out; omega
          replace HK := I5 (show R = decide (1 ≤ M ∧ M ≤ 12 ∧ 1 ≤ D ∧ D ≤ dim (Y : Nat) (Mn : Nat)) by
           have AK : (1 ≤ Mn ∧ Mn ≤ 12 ∧ 1 ≤ Dn ∧ (Dn : Int) ≤ dim (Y : Nat) (Mn : Nat)) ↔ (1 ≤ M ∧ M ≤ 12 ∧ 1 ≤ D ∧ D ≤ dim (Y : Nat) (Mn : Nat)) := by rw [← bD]; omega
           rw [HK.out, eB1, eB2, eB3, eB4, eCO, ← hY, ← EX, ← E0]
           simp [AK])
          replace HN := I5 (show R = true → V = (dby (Y : Nat) + (D - 1) + cum (Y : Nat) Mn) * 86400 + CV by
           intro h; rw [HN.out h, ← hY, ← EX, ← bD, E0])
          have BY := I5 bY
          have BM := I5 bM
          have IY : 0 ≤ 100 * C + E ∧ 100 * C + E ≤ 9999 := by omega
          clear t0 t1 t2 t3 T1 T2 T3 T4 hY EX E0 bY bM bD
          by_cases x1 : 1 ≤ M
          ·
           by_cases x2 : M ≤ 12
           ·
            by_cases x3 : 1 ≤ D
            ·
             have bd := mw (Y : Nat) (Mn : Nat)
             obtain ⟨L, hL⟩ : ∃ L, L = dim (Y : Nat) (Mn : Nat) := ⟨_, rfl⟩
             rw [← hL] at bd HK
             have Bf := I5 hL
             clear hL
             by_cases x4 : D ≤ L
             ·
              have HE := I5 (show R = true by rw [HK.out]; simp [x1, x2, x3, x4])
              have HZ := I5 (HN.out HE.out)
              go_wp2_with fail
              rw [← BY.out, ← BM.out]
              refine (fQ _ _ _ (by omega) (by have := BM.out; omega) (by have := BM.out; omega)).mono ?_
              rintro e w6 ⟨rfl, hb6⟩
              rw [← Bf.out]
              have DB := hW.trans (hb6.mono hW.size)
              go_wp2_with fail
              refine (oq _ _ (by omega) (by have := BY.out; omega)).mono ?_
              rintro e w7 ⟨rfl, hb7⟩
              have Hz := DB.trans (hb7.mono DB.size)
              have cd := wX (Y : Nat) (by omega) (by have := BY.out; omega)
              obtain ⟨A0, hA0⟩ : ∃ A0, A0 = dby (Y : Nat) := ⟨_, rfl⟩
              rw [← hA0]
              rw [← hA0] at cd
              have FJ := I5 hA0.symm
              clear hA0
              have bMM : (Mn : Int) ≤ 12 := by have := BM.out; omega
              have bMM1 : (1 : Int) ≤ (Mn : Int) := by have := BM.out; omega
              go_wp2_with fail
              go_loopw [15, 16] (fun s k wr => ∃ j : Nat, 1 ≤ j ∧ j ≤ Mn ∧ k = .int .i64 j ∧ s = .int .i64 (A0 + D - 1 + cum (Y : Nat) j) ∧ Below w.heap.size w wr) (fun _ k _ => Mn - (intOf k).toNat)
              case atStart => exact ⟨1, by omega, by omega, rfl, by simp [cum], Hz⟩
              case round =>
               obtain ⟨j, Dx, zK, rfl, rfl, hWr⟩ := hrel
               have cb := wZ (Y : Nat) j
               have cs := I5 (mA (Y : Nat) j Dx)
               obtain ⟨Q, hQ⟩ : ∃ Q, Q = cum (Y : Nat) j := ⟨_, rfl⟩
               rw [← hQ]
               rw [← hQ] at cb cs
               have HQ := I5 hQ
               clear hQ
               by_cases aJ : j < Mn
               ·have db := mw (Y : Nat) (j : Nat)
                go_wp2_with fail
                refine (fQ _ _ _ (by omega) (by omega) (by omega)).mono ?_
                rintro e w9 ⟨rfl, hb9⟩
                obtain ⟨P, hP⟩ : ∃ P, P = dim (Y : Nat) (j : Nat) := ⟨_, rfl⟩
                rw [← hP]
                rw [← hP] at db cs
                clear hP
                have HJ := hWr.trans (hb9.mono hWr.size)
                go_wp2_with fail
                go_roundw
                case rel => exact ⟨j + 1, by omega, by omega, by go_num, by rw [cs.out]; go_num, HJ⟩
                case measure => simp [intOf]; omega
               ·obtain rfl : j = Mn := by omega
                have A7 := I5 (show V = (A0 + D - 1 + Q) * 86400 + CV by rw [HZ.out, FJ.out, HQ.out, show A0 + (D - 1) = A0 + D - 1 by omega])
                go_wp2_with fail
                go_ret2
                exact ⟨by rw [HE.out, A7.out]; rfl, hWr⟩
             ·
              have HE := I5 (show R = false by rw [HK.out]; simp [x4])
              have HZ := I5 (fin.out HE.out)
              replace x4 : L < D := by omega
              go_wp2_with fail
              rw [← BY.out, ← BM.out]
              refine (fQ _ _ _ (by omega) (by have := BM.out; omega) (by have := BM.out; omega)).mono ?_
              rintro e w6 ⟨rfl, hb6⟩
              rw [← Bf.out]
              have DB := hW.trans (hb6.mono hW.size)
              go_wp2_with fail
              go_ret2
              exact ⟨by rw [HE.out, HZ.out]; rfl, DB⟩
            ·
             have HE := I5 (show R = false by rw [HK.out]; simp [x3])
             have HZ := I5 (fin.out HE.out)
             replace x3 : D < 1 := by omega
             go_wp2_with fail
             go_ret2
             exact ⟨by rw [HE.out, HZ.out]; rfl, hW⟩
           ·
            have HE := I5 (show R = false by rw [HK.out]; simp [x2])
            have HZ := I5 (fin.out HE.out)
            replace x2 : 12 < M := by omega
            go_wp2_with fail
            go_ret2
            exact ⟨by rw [HE.out, HZ.out]; rfl, hW⟩
          ·
           have HE := I5 (show R = false by rw [HK.out]; simp [x1])
           have HZ := I5 (fin.out HE.out)
           replace x1 : M < 1 := by omega
           go_wp2_with fail
           go_ret2
           exact ⟨by rw [HE.out, HZ.out]; rfl, hW⟩
    ·
     have Cb : (r == 95) = false := by simpa [← UInt8.toNat_inj] using hr
     have HE := I5 (show R = false by rw [HR.out]; simp [dateOk, Cb])
     have HZ := I5 (fin.out HE.out)
     have qq : ((r.toNat : Int) != 95) = true := by rw [bne_iff_ne]; omega
     go_enter Tryz.func133, Tryz.ntmps133
     go_wp2_with fail
     go_ret2
     exact ⟨by rw [HE.out, HZ.out]; rfl, Below.refl _ _⟩
   ·
    have Cb : (q == 45) = false := by simpa [← UInt8.toNat_inj] using hq
    have HE := I5 (show R = false by rw [HR.out]; simp [dateOk, Cb])
    have HZ := I5 (fin.out HE.out)
    have qq : ((q.toNat : Int) != 45) = true := by rw [bne_iff_ne]; omega
    go_enter Tryz.func133, Tryz.ntmps133
    go_wp2_with fail
    go_ret2
    exact ⟨by rw [HE.out, HZ.out]; rfl, Below.refl _ _⟩
  ·
   have Cb : (p == 45) = false := by simpa [← UInt8.toNat_inj] using hp
   have HE := I5 (show R = false by rw [HR.out]; simp [dateOk, Cb])
   have HZ := I5 (fin.out HE.out)
   have qq : ((p.toNat : Int) != 45) = true := by rw [bne_iff_ne]; omega
   go_enter Tryz.func133, Tryz.ntmps133
   go_wp2_with fail
   go_ret2
   exact ⟨by rw [HE.out, HZ.out]; rfl, Below.refl _ _⟩
 ·have HE := I5 (show R = false by rw [HR.out]; exact rY l (by rw [← hs.1]; exact dh))
  have HZ := I5 (fin.out HE.out)
  have qq : ((len : Int) != 19) = true := by rw [bne_iff_ne]; omega
  go_enter Tryz.func133, Tryz.ntmps133
  go_wp2_with fail
  go_ret2
  exact ⟨by rw [HE.out, HZ.out]; rfl, Below.refl _ _⟩
end Go.Proofs.YtmmkaclmgnpplaaGreatDoor

import Derived.Test.YtmmkaclmgnpplaaGreatDoorMz19
set_option maxRecDepth 100000
set_option maxHeartbeats 64000000
set_option linter.unusedSimpArgs false
set_option linter.unusedVariables false
namespace Go.Proofs.YtmmkaclmgnpplaaGreatDoor
open Go.RowKit
theorem tT (r : Nat) (bV a7 : Bool) (bs : Option Addr) (bi bm : Nat) (bU : List UInt8) (bW bf : Bool) (bu : Option Addr) (bg bt : Nat) (bZ : List UInt8) (ba : Option Addr) (bn bc : Nat) (bl : List UInt8) (w : World) (Srl : Sl w bs bi bm bU) (Nrl : bi ≤ 6000) (Srh : Sl w bu bg bt bZ) (Nrh : bg ≤ 6000) (Sb : Sl w ba bn bc bl) (Nb : bn ≤ 6000) :
  Calls Tryz.prog 82 #[.agg #[.int .u8 r, .bool bV, .bool a7, .slice bs bi bm, .bool bW, .bool bf, .slice bu bg bt], .slice ba bn bc] w fun e w' => e = .returned (.bool (inB ⟨r, ⟨bV, a7, bU⟩, ⟨bW, bf, bZ⟩⟩ bl)) ∧ Below w.heap.size w w' := by
 have au : Below w.heap.size w (w.alloc (.cells #[.int .u8 r, .bool bV, .bool a7, .slice bs bi bm, .bool bW, .bool bf, .slice bu bg bt] 27 (0, 0))) := (Below.refl _ _).alloc (Nat.le_refl _) _
 have an := Srl.after au
 have aO := Srh.after au
 have gV := Sb.after au
 have B0 : Box (w.alloc (.cells #[.int .u8 r, .bool bV, .bool a7, .slice bs bi bm, .bool bW, .bool bf, .slice bu bg bt] 27 (0, 0))) w.heap.size 27 #[.int .u8 r, .bool bV, .bool a7, .slice bs bi bm, .bool bW, .bool bf, .slice bu bg bt] := Box.new _ _ _
 have q0 : inB ⟨r, ⟨bV, a7, bU⟩, ⟨bW, bf, bZ⟩⟩ bl = (mayB ⟨r, ⟨bV, a7, bU⟩, ⟨bW, bf, bZ⟩⟩ && isV r bl && !(bV && (decide (cV r bl bU < 0) || (decide (cV r bl bU = 0) && a7))) && (!bW || decide (cV r bl bZ < 0) || (decide (cV r bl bZ = 0) && !bf))) := Ar _ _
 rw [q0]
 clear q0
 cases hM : mayB ⟨r, ⟨bV, a7, bU⟩, ⟨bW, bf, bZ⟩⟩
 ·rw [Bool.false_and, Bool.false_and, Bool.false_and]
  go_enter Tryz.func82, Tryz.ntmps82
  go_wp2_with fail
  refine (aW _ _ _ _ _ _ _ _ _ _ _ _ _ _ an Nrl aO Nrh).mono ?_
  rintro e w1 ⟨rfl, af⟩
  rw [hM]
  have hW := au.trans (af.mono au.size)
  have B1 := B0.after af
  go_wp2_with fail
  go_ret
  exact ⟨rfl, hW⟩
 ·cases hV : isV r bl
  ·rw [Bool.true_and, Bool.false_and, Bool.false_and]
   go_enter Tryz.func82, Tryz.ntmps82
   go_wp2_with fail
   refine (aW _ _ _ _ _ _ _ _ _ _ _ _ _ _ an Nrl aO Nrh).mono ?_
   rintro e w1 ⟨rfl, af⟩
   rw [hM]
   have hW := au.trans (af.mono au.size)
   have B1 := B0.after af
   have c0 := B1.cell 0 rfl
   go_wp2_with fail
   refine (aM _ _ _ _ _ _ (gV.after af) Nb).mono ?_
   rintro e w2 ⟨rfl, aK⟩
   rw [hV]
   have bE := hW.trans (aK.mono hW.size)
   have B2 := B1.after aK
   go_wp2_with fail
   go_ret
   exact ⟨rfl, bE⟩
  ·rw [Bool.true_and, Bool.true_and]
   obtain ⟨C, hC⟩ : ∃ C, C = cV r bl bU := ⟨_, rfl⟩
   obtain ⟨D, hD⟩ : ∃ D, D = cV r bl bZ := ⟨_, rfl⟩
   have t1 := fG r bl bU
   have t2 := fG r bl bZ
   rw [← hC] at t1 ⊢
   rw [← hD] at t2 ⊢
   have H1 := I5 hC
   have H2 := I5 hD
   clear hC hD
   cases bV
   ·cases bW
    ·rw [show (!(false && (decide (C < 0) || (decide (C = 0) && a7))) && (!false || decide (D < 0) || (decide (D = 0) && !bf))) = true from rfl]
     go_enter Tryz.func82, Tryz.ntmps82
     go_wp2_with fail
     refine (aW _ _ _ _ _ _ _ _ _ _ _ _ _ _ an Nrl aO Nrh).mono ?_
     rintro e w1 ⟨rfl, af⟩
     rw [hM]
     have hW := au.trans (af.mono au.size)
     have B1 := B0.after af
     have c0 := B1.cell 0 rfl
     go_wp2_with fail
     refine (aM _ _ _ _ _ _ (gV.after af) Nb).mono ?_
     rintro e w2 ⟨rfl, aK⟩
     rw [hV]
     have bE := hW.trans (aK.mono hW.size)
     have B2 := B1.after aK
     have d0 := B2.cell 0 rfl
     have d3 := B2.cell 3 rfl
     have d6 := B2.cell 6 rfl
     go_wp2_with fail
     refine (aL _ _ _ _ _ _ _ _ _ _ ((gV.after af).after aK) ((an.after af).after aK) Nb Nrl).mono ?_
     rintro e w3 ⟨rfl, bK⟩
     rw [← H1.out]
     have gl := bE.trans (bK.mono bE.size)
     have B3 := B2.after bK
     have f0 := B3.cell 0 rfl
     have f6 := B3.cell 6 rfl
     go_wp2_with fail
     refine (aL _ _ _ _ _ _ _ _ _ _ (((gV.after af).after aK).after bK) (((aO.after af).after aK).after bK) Nb Nrh).mono ?_
     rintro e w4 ⟨rfl, hb4⟩
     rw [← H2.out]
     have nb := gl.trans (hb4.mono gl.size)
     have B4 := B3.after hb4
     have g1 := B4.cell 1 rfl
     have g2 := B4.cell 2 rfl
     have g4 := B4.cell 4 rfl
     have g5 := B4.cell 5 rfl
     go_wp2_with fail
     go_ret
     exact ⟨by first | rfl | simp, nb⟩
    ·rcases t2 with rfl | rfl | rfl
     all_goals
      go_enter Tryz.func82, Tryz.ntmps82
      go_wp2_with fail
      refine (aW _ _ _ _ _ _ _ _ _ _ _ _ _ _ an Nrl aO Nrh).mono ?_
      rintro e w1 ⟨rfl, af⟩
      rw [hM]
      have hW := au.trans (af.mono au.size)
      have B1 := B0.after af
      have c0 := B1.cell 0 rfl
      go_wp2_with fail
      refine (aM _ _ _ _ _ _ (gV.after af) Nb).mono ?_
      rintro e w2 ⟨rfl, aK⟩
      rw [hV]
      have bE := hW.trans (aK.mono hW.size)
      have B2 := B1.after aK
      have d0 := B2.cell 0 rfl
      have d3 := B2.cell 3 rfl
      have d6 := B2.cell 6 rfl
      go_wp2_with fail
      refine (aL _ _ _ _ _ _ _ _ _ _ ((gV.after af).after aK) ((an.after af).after aK) Nb Nrl).mono ?_
      rintro e w3 ⟨rfl, bK⟩
      rw [← H1.out]
      have gl := bE.trans (bK.mono bE.size)
      have B3 := B2.after bK
      have f0 := B3.cell 0 rfl
      have f6 := B3.cell 6 rfl
      go_wp2_with fail
      refine (aL _ _ _ _ _ _ _ _ _ _ (((gV.after af).after aK).after bK) (((aO.after af).after aK).after bK) Nb Nrh).mono ?_
      rintro e w4 ⟨rfl, hb4⟩
      rw [← H2.out]
      have nb := gl.trans (hb4.mono gl.size)
      have B4 := B3.after hb4
      have g1 := B4.cell 1 rfl
      have g2 := B4.cell 2 rfl
      have g4 := B4.cell 4 rfl
      have g5 := B4.cell 5 rfl
      go_wp2_with fail
      go_ret
      exact ⟨by first | rfl | simp, nb⟩
   ·rcases t1 with rfl | rfl | rfl
    ·rw [show (!(true && (decide ((-1 : Int) < 0) || (decide ((-1 : Int) = 0) && a7))) && (!bW || decide (D < 0) || (decide (D = 0) && !bf))) = false from rfl]
     go_enter Tryz.func82, Tryz.ntmps82
     go_wp2_with fail
     refine (aW _ _ _ _ _ _ _ _ _ _ _ _ _ _ an Nrl aO Nrh).mono ?_
     rintro e w1 ⟨rfl, af⟩
     rw [hM]
     have hW := au.trans (af.mono au.size)
     have B1 := B0.after af
     have c0 := B1.cell 0 rfl
     go_wp2_with fail
     refine (aM _ _ _ _ _ _ (gV.after af) Nb).mono ?_
     rintro e w2 ⟨rfl, aK⟩
     rw [hV]
     have bE := hW.trans (aK.mono hW.size)
     have B2 := B1.after aK
     have d0 := B2.cell 0 rfl
     have d3 := B2.cell 3 rfl
     have d6 := B2.cell 6 rfl
     go_wp2_with fail
     refine (aL _ _ _ _ _ _ _ _ _ _ ((gV.after af).after aK) ((an.after af).after aK) Nb Nrl).mono ?_
     rintro e w3 ⟨rfl, bK⟩
     rw [← H1.out]
     have gl := bE.trans (bK.mono bE.size)
     have B3 := B2.after bK
     have f0 := B3.cell 0 rfl
     have f6 := B3.cell 6 rfl
     go_wp2_with fail
     refine (aL _ _ _ _ _ _ _ _ _ _ (((gV.after af).after aK).after bK) (((aO.after af).after aK).after bK) Nb Nrh).mono ?_
     rintro e w4 ⟨rfl, hb4⟩
     rw [← H2.out]
     have nb := gl.trans (hb4.mono gl.size)
     have B4 := B3.after hb4
     have g1 := B4.cell 1 rfl
     have g2 := B4.cell 2 rfl
     have g4 := B4.cell 4 rfl
     have g5 := B4.cell 5 rfl
     go_wp2_with fail
     go_ret
     exact ⟨by first | rfl | simp, nb⟩
    ·cases a7
     ·cases bW
      ·rw [show (!(true && (decide ((0 : Int) < 0) || (decide ((0 : Int) = 0) && false))) && (!false || decide (D < 0) || (decide (D = 0) && !bf))) = true from rfl]
       go_enter Tryz.func82, Tryz.ntmps82
       go_wp2_with fail
       refine (aW _ _ _ _ _ _ _ _ _ _ _ _ _ _ an Nrl aO Nrh).mono ?_
       rintro e w1 ⟨rfl, af⟩
       rw [hM]
       have hW := au.trans (af.mono au.size)
       have B1 := B0.after af
       have c0 := B1.cell 0 rfl
       go_wp2_with fail
       refine (aM _ _ _ _ _ _ (gV.after af) Nb).mono ?_
       rintro e w2 ⟨rfl, aK⟩
       rw [hV]
       have bE := hW.trans (aK.mono hW.size)
       have B2 := B1.after aK
       have d0 := B2.cell 0 rfl
       have d3 := B2.cell 3 rfl
       have d6 := B2.cell 6 rfl
       go_wp2_with fail
       refine (aL _ _ _ _ _ _ _ _ _ _ ((gV.after af).after aK) ((an.after af).after aK) Nb Nrl).mono ?_
       rintro e w3 ⟨rfl, bK⟩
       rw [← H1.out]
       have gl := bE.trans (bK.mono bE.size)
       have B3 := B2.after bK
       have f0 := B3.cell 0 rfl
       have f6 := B3.cell 6 rfl
       go_wp2_with fail
       refine (aL _ _ _ _ _ _ _ _ _ _ (((gV.after af).after aK).after bK) (((aO.after af).after aK).after bK) Nb Nrh).mono ?_
       rintro e w4 ⟨rfl, hb4⟩
       rw [← H2.out]
       have nb := gl.trans (hb4.mono gl.size)
       have B4 := B3.after hb4
       have g1 := B4.cell 1 rfl
       have g2 := B4.cell 2 rfl
       have g4 := B4.cell 4 rfl
       have g5 := B4.cell 5 rfl
       go_wp2_with fail
       go_ret
       exact ⟨by first | rfl | simp, nb⟩
      ·rcases t2 with rfl | rfl | rfl
       all_goals
        go_enter Tryz.func82, Tryz.ntmps82
        go_wp2_with fail
        refine (aW _ _ _ _ _ _ _ _ _ _ _ _ _ _ an Nrl aO Nrh).mono ?_
        rintro e w1 ⟨rfl, af⟩
        rw [hM]
        have hW := au.trans (af.mono au.size)
        have B1 := B0.after af
        have c0 := B1.cell 0 rfl
        go_wp2_with fail
        refine (aM _ _ _ _ _ _ (gV.after af) Nb).mono ?_
        rintro e w2 ⟨rfl, aK⟩
        rw [hV]
        have bE := hW.trans (aK.mono hW.size)
        have B2 := B1.after aK
        have d0 := B2.cell 0 rfl
        have d3 := B2.cell 3 rfl
        have d6 := B2.cell 6 rfl
        go_wp2_with fail
        refine (aL _ _ _ _ _ _ _ _ _ _ ((gV.after af).after aK) ((an.after af).after aK) Nb Nrl).mono ?_
        rintro e w3 ⟨rfl, bK⟩
        rw [← H1.out]
        have gl := bE.trans (bK.mono bE.size)
        have B3 := B2.after bK
        have f0 := B3.cell 0 rfl
        have f6 := B3.cell 6 rfl
        go_wp2_with fail
        refine (aL _ _ _ _ _ _ _ _ _ _ (((gV.after af).after aK).after bK) (((aO.after af).after aK).after bK) Nb Nrh).mono ?_
        rintro e w4 ⟨rfl, hb4⟩
        rw [← H2.out]
        have nb := gl.trans (hb4.mono gl.size)
        have B4 := B3.after hb4
        have g1 := B4.cell 1 rfl
        have g2 := B4.cell 2 rfl
        have g4 := B4.cell 4 rfl
        have g5 := B4.cell 5 rfl
        go_wp2_with fail
        go_ret
        exact ⟨by first | rfl | simp, nb⟩
     ·rw [show (!(true && (decide ((0 : Int) < 0) || (decide ((0 : Int) = 0) && true))) && (!bW || decide (D < 0) || (decide (D = 0) && !bf))) = false from rfl]
      go_enter Tryz.func82, Tryz.ntmps82
      go_wp2_with fail
      refine (aW _ _ _ _ _ _ _ _ _ _ _ _ _ _ an Nrl aO Nrh).mono ?_
      rintro e w1 ⟨rfl, af⟩
      rw [hM]
      have hW := au.trans (af.mono au.size)
      have B1 := B0.after af
      have c0 := B1.cell 0 rfl
      go_wp2_with fail
      refine (aM _ _ _ _ _ _ (gV.after af) Nb).mono ?_
      rintro e w2 ⟨rfl, aK⟩
      rw [hV]
      have bE := hW.trans (aK.mono hW.size)
      have B2 := B1.after aK
      have d0 := B2.cell 0 rfl
      have d3 := B2.cell 3 rfl
      have d6 := B2.cell 6 rfl
      go_wp2_with fail
      refine (aL _ _ _ _ _ _ _ _ _ _ ((gV.after af).after aK) ((an.after af).after aK) Nb Nrl).mono ?_
      rintro e w3 ⟨rfl, bK⟩
      rw [← H1.out]
      have gl := bE.trans (bK.mono bE.size)
      have B3 := B2.after bK
      have f0 := B3.cell 0 rfl
      have f6 := B3.cell 6 rfl
      go_wp2_with fail
      refine (aL _ _ _ _ _ _ _ _ _ _ (((gV.after af).after aK).after bK) (((aO.after af).after aK).after bK) Nb Nrh).mono ?_
      rintro e w4 ⟨rfl, hb4⟩
      rw [← H2.out]
      have nb := gl.trans (hb4.mono gl.size)
      have B4 := B3.after hb4
      have g1 := B4.cell 1 rfl
      have g2 := B4.cell 2 rfl
      have g4 := B4.cell 4 rfl
      have g5 := B4.cell 5 rfl
      go_wp2_with fail
      go_ret
      exact ⟨by first | rfl | simp, nb⟩
    ·cases bW
     ·rw [show (!(true && (decide ((1 : Int) < 0) || (decide ((1 : Int) = 0) && a7))) && (!false || decide (D < 0) || (decide (D = 0) && !bf))) = true from rfl]
      go_enter Tryz.func82, Tryz.ntmps82
      go_wp2_with fail
      refine (aW _ _ _ _ _ _ _ _ _ _ _ _ _ _ an Nrl aO Nrh).mono ?_
      rintro e w1 ⟨rfl, af⟩
      rw [hM]
      have hW := au.trans (af.mono au.size)
      have B1 := B0.after af
      have c0 := B1.cell 0 rfl
      go_wp2_with fail
      refine (aM _ _ _ _ _ _ (gV.after af) Nb).mono ?_
      rintro e w2 ⟨rfl, aK⟩
      rw [hV]
      have bE := hW.trans (aK.mono hW.size)
      have B2 := B1.after aK
      have d0 := B2.cell 0 rfl
      have d3 := B2.cell 3 rfl
      have d6 := B2.cell 6 rfl
      go_wp2_with fail
      refine (aL _ _ _ _ _ _ _ _ _ _ ((gV.after af).after aK) ((an.after af).after aK) Nb Nrl).mono ?_
      rintro e w3 ⟨rfl, bK⟩
      rw [← H1.out]
      have gl := bE.trans (bK.mono bE.size)
      have B3 := B2.after bK
      have f0 := B3.cell 0 rfl
      have f6 := B3.cell 6 rfl
      go_wp2_with fail
      refine (aL _ _ _ _ _ _ _ _ _ _ (((gV.after af).after aK).after bK) (((aO.after af).after aK).after bK) Nb Nrh).mono ?_
      rintro e w4 ⟨rfl, hb4⟩
      rw [← H2.out]
      have nb := gl.trans (hb4.mono gl.size)
      have B4 := B3.after hb4
      have g1 := B4.cell 1 rfl
      have g2 := B4.cell 2 rfl
      have g4 := B4.cell 4 rfl
      have g5 := B4.cell 5 rfl
      go_wp2_with fail
      go_ret
      exact ⟨by first | rfl | simp, nb⟩
     ·rcases t2 with rfl | rfl | rfl
      all_goals
       go_enter Tryz.func82, Tryz.ntmps82
       go_wp2_with fail
       refine (aW _ _ _ _ _ _ _ _ _ _ _ _ _ _ an Nrl aO Nrh).mono ?_
       rintro e w1 ⟨rfl, af⟩
       rw [hM]
       have hW := au.trans (af.mono au.size)
       have B1 := B0.after af
       have c0 := B1.cell 0 rfl
       go_wp2_with fail
       refine (aM _ _ _ _ _ _ (gV.after af) Nb).mono ?_
       rintro e w2 ⟨rfl, aK⟩
       rw [hV]
       have bE := hW.trans (aK.mono hW.size)
       have B2 := B1.after aK
       have d0 := B2.cell 0 rfl
       have d3 := B2.cell 3 rfl
       have d6 := B2.cell 6 rfl
       go_wp2_with fail
       refine (aL _ _ _ _ _ _ _ _ _ _ ((gV.after af).after aK) ((an.after af).after aK) Nb Nrl).mono ?_
       rintro e w3 ⟨rfl, bK⟩
       rw [← H1.out]
       have gl := bE.trans (bK.mono bE.size)
       have B3 := B2.after bK
       have f0 := B3.cell 0 rfl
       have f6 := B3.cell 6 rfl
       go_wp2_with fail
       refine (aL _ _ _ _ _ _ _ _ _ _ (((gV.after af).after aK).after bK) (((aO.after af).after aK).after bK) Nb Nrh).mono ?_
       rintro e w4 ⟨rfl, hb4⟩
       rw [← H2.out]
       have nb := gl.trans (hb4.mono gl.size)
       have B4 := B3.after hb4
       have g1 := B4.cell 1 rfl
       have g2 := B4.cell 2 rfl
       have g4 := B4.cell 4 rfl
       have g5 := B4.cell 5 rfl
       go_wp2_with fail
       go_ret
       exact ⟨by first | rfl | simp, nb⟩
theorem fC (xi xo : Bool) (xa : Option Addr) (xn xc : Nat) (xl : List UInt8) (yi yo : Bool) (ya : Option Addr) (yn yc : Nat) (yl : List UInt8) (w : World) (Sx : Sl w xa xn xc xl) (Sy : Sl w ya yn yc yl) :
  Calls Tryz.prog 56 #[.agg #[.bool xi, .bool xo, .slice xa xn xc], .agg #[.bool yi, .bool yo, .slice ya yn yc]] w fun e w' => e = .returned (.bool (sameBd ⟨xi, xo, xl⟩ ⟨yi, yo, yl⟩)) ∧ Below w.heap.size w w' := by
 have au : Below w.heap.size w ((w.alloc (.cells #[.bool xi, .bool xo, .slice xa xn xc] 25)).alloc (.cells #[.bool yi, .bool yo, .slice ya yn yc] 25)) := ((Below.refl _ _).alloc (Nat.le_refl _) _).alloc (by simp) _
 have v1 := bv (Sx.after au)
 have v2 := bv (Sy.after au)
 have q : sameBd ⟨xi, xo, xl⟩ ⟨yi, yo, yl⟩ = (xi == yi && xo == yo && decide (xl = yl)) := rfl
 rw [q]
 clear q
 by_cases hi : xi = yi
 ·subst hi
  rw [beq_self_eq_true, Bool.true_and]
  by_cases ho : xo = yo
  ·subst ho
   rw [beq_self_eq_true, Bool.true_and]
   by_cases hl : xl = yl
   ·subst hl
    rw [decide_eq_true rfl]
    go_enter Tryz.func56, Tryz.ntmps56
    go_wp2_with fail
    go_ret
    exact ⟨rfl, au⟩
   ·rw [decide_eq_false hl]
    have x4 : (xl == yl) = false := by simpa using hl
    clear hl
    go_enter Tryz.func56, Tryz.ntmps56
    go_wp2_with fail
    go_ret
    exact ⟨rfl, au⟩
  ·have x4 : (xo == yo) = false := by simpa using ho
   rw [x4, Bool.false_and]
   clear ho
   go_enter Tryz.func56, Tryz.ntmps56
   go_wp2_with fail
   go_ret
   exact ⟨rfl, au⟩
 ·have x4 : (xi == yi) = false := by simpa using hi
  rw [x4, Bool.false_and, Bool.false_and]
  clear hi
  go_enter Tryz.func56, Tryz.ntmps56
  go_wp2_with fail
  go_ret
  exact ⟨rfl, au⟩
theorem tK (r : Nat) (bV a7 : Bool) (bs : Option Addr) (bi bm : Nat) (bU : List UInt8) (bW bf : Bool) (bu : Option Addr) (bg bt : Nat) (bZ : List UInt8) (s : Nat) (iU iT : Bool) (oh : Option Addr) (nl og : Nat) (mK : List UInt8) (fg iV : Bool) (om : Option Addr) (np ol : Nat) (mL : List UInt8) (w : World) (Srl : Sl w bs bi bm bU) (Srh : Sl w bu bg bt bZ) (Ssl : Sl w oh nl og mK) (Ssh : Sl w om np ol mL) :
  Calls Tryz.prog 32 #[.agg #[.int .u8 r, .bool bV, .bool a7, .slice bs bi bm, .bool bW, .bool bf, .slice bu bg bt], .agg #[.int .u8 s, .bool iU, .bool iT, .slice oh nl og, .bool fg, .bool iV, .slice om np ol]] w fun e w' => e = .returned (.bool (sameR ⟨r, ⟨bV, a7, bU⟩, ⟨bW, bf, bZ⟩⟩ ⟨s, ⟨iU, iT, mK⟩, ⟨fg, iV, mL⟩⟩)) ∧ Below w.heap.size w w' := by
 have au : Below w.heap.size w ((w.alloc (.cells #[.int .u8 r, .bool bV, .bool a7, .slice bs bi bm, .bool bW, .bool bf, .slice bu bg bt] 27)).alloc (.cells #[.int .u8 s, .bool iU, .bool iT, .slice oh nl og, .bool fg, .bool iV, .slice om np ol] 27)) := ((Below.refl _ _).alloc (Nat.le_refl _) _).alloc (by simp) _
 have A0 : Box ((w.alloc (.cells #[.int .u8 r, .bool bV, .bool a7, .slice bs bi bm, .bool bW, .bool bf, .slice bu bg bt] 27)).alloc (.cells #[.int .u8 s, .bool iU, .bool iT, .slice oh nl og, .bool fg, .bool iV, .slice om np ol] 27)) w.heap.size 27 #[.int .u8 r, .bool bV, .bool a7, .slice bs bi bm, .bool bW, .bool bf, .slice bu bg bt] := (Box.new _ _ _).alloc _
 have B0 : Box ((w.alloc (.cells #[.int .u8 r, .bool bV, .bool a7, .slice bs bi bm, .bool bW, .bool bf, .slice bu bg bt] 27)).alloc (.cells #[.int .u8 s, .bool iU, .bool iT, .slice oh nl og, .bool fg, .bool iV, .slice om np ol] 27)) (w.heap.size + 1) 27 #[.int .u8 s, .bool iU, .bool iT, .slice oh nl og, .bool fg, .bool iV, .slice om np ol] := mE (by simp)
 have q : sameR ⟨r, ⟨bV, a7, bU⟩, ⟨bW, bf, bZ⟩⟩ ⟨s, ⟨iU, iT, mK⟩, ⟨fg, iV, mL⟩⟩ = (decide (r = s) && sameBd ⟨bV, a7, bU⟩ ⟨iU, iT, mK⟩ && sameBd ⟨bW, bf, bZ⟩ ⟨fg, iV, mL⟩) := rfl
 rw [q]
 obtain ⟨X, hX⟩ : ∃ X, X = sameBd ⟨bV, a7, bU⟩ ⟨iU, iT, mK⟩ := ⟨_, rfl⟩
 obtain ⟨Y, hY⟩ : ∃ Y, Y = sameBd ⟨bW, bf, bZ⟩ ⟨fg, iV, mL⟩ := ⟨_, rfl⟩
 rw [← hX, ← hY]
 have HX := I5 hX
 have HY := I5 hY
 clear q hX hY
 by_cases ho : r = s
 ·subst ho
  rw [decide_eq_true rfl, Bool.true_and]
  have gj : ((r : Int) == (r : Int)) = true := by simp
  cases X
  ·rw [Bool.false_and]
   go_enter Tryz.func32, Tryz.ntmps32
   go_wp2_with fail
   refine (fC _ _ _ _ _ _ _ _ _ _ _ _ _ (Srl.after au) (Ssl.after au)).mono ?_
   rintro e w1 ⟨rfl, af⟩
   rw [← HX.out]
   have hW := au.trans (af.mono au.size)
   have A1 := A0.after af
   have B1 := B0.after af
   go_wp2_with fail
   go_ret
   exact ⟨rfl, hW⟩
  ·rw [Bool.true_and]
   go_enter Tryz.func32, Tryz.ntmps32
   go_wp2_with fail
   refine (fC _ _ _ _ _ _ _ _ _ _ _ _ _ (Srl.after au) (Ssl.after au)).mono ?_
   rintro e w1 ⟨rfl, af⟩
   rw [← HX.out]
   have hW := au.trans (af.mono au.size)
   have A1 := A0.after af
   have B1 := B0.after af
   have c4 := A1.cell 4 rfl
   have c5 := A1.cell 5 rfl
   have c6 := A1.cell 6 rfl
   have d4 := B1.cell 4 rfl
   have d5 := B1.cell 5 rfl
   have d6 := B1.cell 6 rfl
   go_wp2_with fail
   refine (fC _ _ _ _ _ _ _ _ _ _ _ _ _ ((Srh.after au).after af) ((Ssh.after au).after af)).mono ?_
   rintro e w2 ⟨rfl, aK⟩
   rw [← HY.out]
   have bE := hW.trans (aK.mono hW.size)
   go_wp2_with fail
   go_ret
   exact ⟨rfl, bE⟩
 ·rw [decide_eq_false ho, Bool.false_and, Bool.false_and]
  have gj : ((r : Int) == (s : Int)) = false := by rw [beq_eq_false_iff_ne]; omega
  clear ho
  go_enter Tryz.func32, Tryz.ntmps32
  go_wp2_with fail
  go_ret
  exact ⟨rfl, au⟩
theorem lr (r : Nat) (bV a7 : Bool) (bs : Option Addr) (bi bm : Nat)  (bW bf : Bool) (bu : Option Addr) (bg bt : Nat)  (w : World) :
  Calls Tryz.prog 16 #[.agg #[.int .u8 r, .bool bV, .bool a7, .slice bs bi bm, .bool bW, .bool bf, .slice bu bg bt]] w fun e w' => e = .returned (.bool (decide (200 < bi) || decide (200 < bg))) ∧ Below w.heap.size w w' := by
 have au : Below w.heap.size w (w.alloc (.cells #[.int .u8 r, .bool bV, .bool a7, .slice bs bi bm, .bool bW, .bool bf, .slice bu bg bt] 27 (0, 0))) := (Below.refl _ _).alloc (Nat.le_refl _) _
 by_cases h1 : 200 < bi
 ·rw [decide_eq_true h1, Bool.true_or]
  have h2 : (200 : Int) < bi := by omega
  clear h1
  go_enter Tryz.func16, Tryz.ntmps16
  go_wp2_with fail
  go_ret
  exact ⟨rfl, au⟩
 ·rw [decide_eq_false h1, Bool.false_or]
  have h2 : (bi : Int) ≤ 200 := by omega
  clear h1
  by_cases h3 : 200 < bg
  ·rw [decide_eq_true h3]
   have h4 : (200 : Int) < bg := by omega
   clear h3
   go_enter Tryz.func16, Tryz.ntmps16
   go_wp2_with fail
   go_ret
   exact ⟨rfl, au⟩
  ·rw [decide_eq_false h3]
   have h4 : (bg : Int) ≤ 200 := by omega
   clear h3
   go_enter Tryz.func16, Tryz.ntmps16
   go_wp2_with fail
   go_ret
   exact ⟨by rw [← show (decide ((200 : Int) < bi) || decide ((200 : Int) < bg)) = false by simp; omega]; rfl, au⟩
section
open Go.RowKit Go.ChangeShapes Go.WideShapes Go.ChangeAt
theorem iP : Tryz.prog.cellsOf 4 = 1 ∧ Tryz.prog.cellsOf 5 = 1 ∧ Tryz.prog.cellsOf 22 = 1 ∧ Tryz.prog.cellsOf 25 = 3 ∧ Tryz.prog.cellsOf 27 = 7 := ⟨by kernel_rfl, by kernel_rfl, by kernel_rfl, by kernel_rfl, by kernel_rfl⟩
section
variable {H : Type} {enc : TypeId × Value → H} {W : World} {fb : Bool}
theorem xW {fuel : Nat} {c : Value} {x : DataW H × List MemPlace} (h : DataW.trod enc Tryz.prog W 0 (fun _ => true) fb fuel 22 [c] = some x) :
  ∃ (a : Option Addr) (n k : Nat) (z : List Int), c = .slice a n k ∧ IsRow .u8 W a n k z := by
 rcases open_ints Tryz.underlying22 Tryz.underlying5 iP.2.1 h with ⟨vv, _⟩ | ⟨x, l, k, zs, vv, _, hl, hm, hz, _, jW, Dp⟩
 ·simp at vv
  exact ⟨none, 0, 0, [], vv, .inl ⟨rfl, rfl, rfl, rfl⟩⟩
 ·simp at vv
  exact ⟨_, l, k, zs, vv, .inr ⟨_, rfl, hl, hm, by simpa using hz, jW, Dp⟩⟩
theorem sG {fuel : Nat} {c1 c2 c3 : Value} {x : DataW H × List MemPlace} (h : DataW.trod enc Tryz.prog W 0 (fun _ => true) fb fuel 25 [c1, c2, c3] = some x) :
  ∃ (i o : Bool) (a : Option Addr) (n k : Nat) (z : List Int), c1 = .bool i ∧ c2 = .bool o ∧ c3 = .slice a n k ∧ IsRow .u8 W a n k z := by
 obtain ⟨k1, k2, k3, k4, k5⟩ := iP
 obtain ⟨xs, m, _, _, _, hl, hg⟩ := DataW.trod_struct Tryz.underlying25 h
 match xs, hl with
 | [y0, y1, y2], _ =>
  have h0 : DataW.trod enc Tryz.prog W 0 (fun _ => true) fb m 4 (([c1, c2, c3].drop 0).take (Tryz.prog.cellsOf 4)) = some y0 := hg 0 _ rfl
  have h1 : DataW.trod enc Tryz.prog W 0 (fun _ => true) fb m 4 (([c1, c2, c3].drop 1).take (Tryz.prog.cellsOf 4)) = some y1 := hg 1 _ rfl
  have h2 : DataW.trod enc Tryz.prog W 0 (fun _ => true) fb m 22 (([c1, c2, c3].drop 2).take (Tryz.prog.cellsOf 22)) = some y2 := hg 2 _ rfl
  rw [k1] at h0 h1
  rw [k3] at h2
  obtain ⟨i, e0, _⟩ := DataW.trod_bool Tryz.underlying4 h0
  obtain ⟨o, e1, _⟩ := DataW.trod_bool Tryz.underlying4 h1
  obtain ⟨a, n, k, z, e2, hr⟩ := xW h2
  exact ⟨i, o, a, n, k, z, by simpa using e0, by simpa using e1, e2, hr⟩
end
end
end Go.Proofs.YtmmkaclmgnpplaaGreatDoor

/- The document's In, Empty, end, same, Same, Great: what they compute. -/
import Derived.Test.YtoadpeigomkgiaaDoorOrdB
import Derived.Test.YtoadpeigomkgiaaDoorOrd9
namespace Go.Proofs.YtoadpeigomkgiaaDoor
open Go.RowKit

set_option maxHeartbeats 20000000 in
set_option maxRecDepth 100000 in
theorem refIn_any (r : Nat) (rli rlo : Bool) (rla : Option Addr) (rln rlc : Nat) (rll : List UInt8) (rhi rho : Bool) (rha : Option Addr) (rhn rhc : Nat) (rhl : List UInt8) (ba : Option Addr) (bn bc : Nat) (bl : List UInt8) (w : World) (Srl : Sl w rla rln rlc rll) (Nrl : rln ≤ 200) (Srh : Sl w rha rhn rhc rhl) (Nrh : rhn ≤ 200) (Sb : Sl w ba bn bc bl) (Nb : bn ≤ 200) :
    Calls Tryd.prog 17 #[.agg #[.int .u8 r, .bool rli, .bool rlo, .slice rla rln rlc, .bool rhi, .bool rho, .slice rha rhn rhc], .slice ba bn bc] w fun e w' => e = .returned (.bool (inB ⟨r, ⟨rli, rlo, rll⟩, ⟨rhi, rho, rhl⟩⟩ bl)) ∧ Below w.heap.size w w' := by
  have hb0 : Below w.heap.size w (w.alloc (.cells #[.int .u8 r, .bool rli, .bool rlo, .slice rla rln rlc, .bool rhi, .bool rho, .slice rha rhn rhc] 31 (0, 0))) := (Below.refl _ _).alloc (Nat.le_refl _) _
  have hs1 := Srl.after hb0
  have hs2 := Srh.after hb0
  have hsb := Sb.after hb0
  have B0 : Box (w.alloc (.cells #[.int .u8 r, .bool rli, .bool rlo, .slice rla rln rlc, .bool rhi, .bool rho, .slice rha rhn rhc] 31 (0, 0))) w.heap.size 31 #[.int .u8 r, .bool rli, .bool rlo, .slice rla rln rlc, .bool rhi, .bool rho, .slice rha rhn rhc] := Box.new _ _ _
  have q0 : inB ⟨r, ⟨rli, rlo, rll⟩, ⟨rhi, rho, rhl⟩⟩ bl = (mayB ⟨r, ⟨rli, rlo, rll⟩, ⟨rhi, rho, rhl⟩⟩ && isV r bl && !(rli && (decide (cV r bl rll < 0) || (decide (cV r bl rll = 0) && rlo))) && (!rhi || decide (cV r bl rhl < 0) || (decide (cV r bl rhl = 0) && !rho))) := in_ref _ _
  rw [q0]
  clear q0
  cases hM : mayB ⟨r, ⟨rli, rlo, rll⟩, ⟨rhi, rho, rhl⟩⟩
  · rw [Bool.false_and, Bool.false_and, Bool.false_and]
    go_enter Tryd.func17, Tryd.ntmps17
    go_wp2_with fail
    refine (refMay_any _ _ _ _ _ _ _ _ _ _ _ _ _ _ hs1 Nrl hs2 Nrh).mono ?_
    rintro e w1 ⟨rfl, hb1⟩
    rw [hM]
    have hW := hb0.trans (hb1.mono hb0.size)
    have B1 := B0.after hb1
    go_wp2_with fail
    go_ret
    exact ⟨rfl, hW⟩
  · cases hV : isV r bl
    · rw [Bool.true_and, Bool.false_and, Bool.false_and]
      go_enter Tryd.func17, Tryd.ntmps17
      go_wp2_with fail
      refine (refMay_any _ _ _ _ _ _ _ _ _ _ _ _ _ _ hs1 Nrl hs2 Nrh).mono ?_
      rintro e w1 ⟨rfl, hb1⟩
      rw [hM]
      have hW := hb0.trans (hb1.mono hb0.size)
      have B1 := B0.after hb1
      have c0 := B1.cell 0 rfl
      go_wp2_with fail
      refine (refIs_any _ _ _ _ _ _ (hsb.after hb1) Nb).mono ?_
      rintro e w2 ⟨rfl, hb2⟩
      rw [hV]
      have hW2 := hW.trans (hb2.mono hW.size)
      have B2 := B1.after hb2
      go_wp2_with fail
      go_ret
      exact ⟨rfl, hW2⟩
    · rw [Bool.true_and, Bool.true_and]
      obtain ⟨C, hC⟩ : ∃ C, C = cV r bl rll := ⟨_, rfl⟩
      obtain ⟨D, hD⟩ : ∃ D, D = cV r bl rhl := ⟨_, rfl⟩
      have t1 := cV_three r bl rll
      have t2 := cV_three r bl rhl
      rw [← hC] at t1 ⊢
      rw [← hD] at t2 ⊢
      have H1 := Lib.hid hC
      have H2 := Lib.hid hD
      clear hC hD
      cases rli
      · cases rhi
        · rw [show (!(false && (decide (C < 0) || (decide (C = 0) && rlo))) && (!false || decide (D < 0) || (decide (D = 0) && !rho))) = true from rfl]
          go_enter Tryd.func17, Tryd.ntmps17
          go_wp2_with fail
          refine (refMay_any _ _ _ _ _ _ _ _ _ _ _ _ _ _ hs1 Nrl hs2 Nrh).mono ?_
          rintro e w1 ⟨rfl, hb1⟩
          rw [hM]
          have hW := hb0.trans (hb1.mono hb0.size)
          have B1 := B0.after hb1
          have c0 := B1.cell 0 rfl
          go_wp2_with fail
          refine (refIs_any _ _ _ _ _ _ (hsb.after hb1) Nb).mono ?_
          rintro e w2 ⟨rfl, hb2⟩
          rw [hV]
          have hW2 := hW.trans (hb2.mono hW.size)
          have B2 := B1.after hb2
          have d0 := B2.cell 0 rfl
          have d3 := B2.cell 3 rfl
          have d6 := B2.cell 6 rfl
          go_wp2_with fail
          refine (refCompare_any _ _ _ _ _ _ _ _ _ _ ((hsb.after hb1).after hb2) ((hs1.after hb1).after hb2) Nb Nrl).mono ?_
          rintro e w3 ⟨rfl, hb3⟩
          rw [← H1.out]
          have hW3 := hW2.trans (hb3.mono hW2.size)
          have B3 := B2.after hb3
          have f0 := B3.cell 0 rfl
          have f6 := B3.cell 6 rfl
          go_wp2_with fail
          refine (refCompare_any _ _ _ _ _ _ _ _ _ _ (((hsb.after hb1).after hb2).after hb3) (((hs2.after hb1).after hb2).after hb3) Nb Nrh).mono ?_
          rintro e w4 ⟨rfl, hb4⟩
          rw [← H2.out]
          have hW4 := hW3.trans (hb4.mono hW3.size)
          have B4 := B3.after hb4
          have g1 := B4.cell 1 rfl
          have g2 := B4.cell 2 rfl
          have g4 := B4.cell 4 rfl
          have g5 := B4.cell 5 rfl
          go_wp2_with fail
          go_ret
          exact ⟨by first | rfl | simp, hW4⟩
        · rcases t2 with rfl | rfl | rfl
          all_goals
            go_enter Tryd.func17, Tryd.ntmps17
            go_wp2_with fail
            refine (refMay_any _ _ _ _ _ _ _ _ _ _ _ _ _ _ hs1 Nrl hs2 Nrh).mono ?_
            rintro e w1 ⟨rfl, hb1⟩
            rw [hM]
            have hW := hb0.trans (hb1.mono hb0.size)
            have B1 := B0.after hb1
            have c0 := B1.cell 0 rfl
            go_wp2_with fail
            refine (refIs_any _ _ _ _ _ _ (hsb.after hb1) Nb).mono ?_
            rintro e w2 ⟨rfl, hb2⟩
            rw [hV]
            have hW2 := hW.trans (hb2.mono hW.size)
            have B2 := B1.after hb2
            have d0 := B2.cell 0 rfl
            have d3 := B2.cell 3 rfl
            have d6 := B2.cell 6 rfl
            go_wp2_with fail
            refine (refCompare_any _ _ _ _ _ _ _ _ _ _ ((hsb.after hb1).after hb2) ((hs1.after hb1).after hb2) Nb Nrl).mono ?_
            rintro e w3 ⟨rfl, hb3⟩
            rw [← H1.out]
            have hW3 := hW2.trans (hb3.mono hW2.size)
            have B3 := B2.after hb3
            have f0 := B3.cell 0 rfl
            have f6 := B3.cell 6 rfl
            go_wp2_with fail
            refine (refCompare_any _ _ _ _ _ _ _ _ _ _ (((hsb.after hb1).after hb2).after hb3) (((hs2.after hb1).after hb2).after hb3) Nb Nrh).mono ?_
            rintro e w4 ⟨rfl, hb4⟩
            rw [← H2.out]
            have hW4 := hW3.trans (hb4.mono hW3.size)
            have B4 := B3.after hb4
            have g1 := B4.cell 1 rfl
            have g2 := B4.cell 2 rfl
            have g4 := B4.cell 4 rfl
            have g5 := B4.cell 5 rfl
            go_wp2_with fail
            go_ret
            exact ⟨by first | rfl | simp, hW4⟩
      · rcases t1 with rfl | rfl | rfl
        · rw [show (!(true && (decide ((-1 : Int) < 0) || (decide ((-1 : Int) = 0) && rlo))) && (!rhi || decide (D < 0) || (decide (D = 0) && !rho))) = false from rfl]
          go_enter Tryd.func17, Tryd.ntmps17
          go_wp2_with fail
          refine (refMay_any _ _ _ _ _ _ _ _ _ _ _ _ _ _ hs1 Nrl hs2 Nrh).mono ?_
          rintro e w1 ⟨rfl, hb1⟩
          rw [hM]
          have hW := hb0.trans (hb1.mono hb0.size)
          have B1 := B0.after hb1
          have c0 := B1.cell 0 rfl
          go_wp2_with fail
          refine (refIs_any _ _ _ _ _ _ (hsb.after hb1) Nb).mono ?_
          rintro e w2 ⟨rfl, hb2⟩
          rw [hV]
          have hW2 := hW.trans (hb2.mono hW.size)
          have B2 := B1.after hb2
          have d0 := B2.cell 0 rfl
          have d3 := B2.cell 3 rfl
          have d6 := B2.cell 6 rfl
          go_wp2_with fail
          refine (refCompare_any _ _ _ _ _ _ _ _ _ _ ((hsb.after hb1).after hb2) ((hs1.after hb1).after hb2) Nb Nrl).mono ?_
          rintro e w3 ⟨rfl, hb3⟩
          rw [← H1.out]
          have hW3 := hW2.trans (hb3.mono hW2.size)
          have B3 := B2.after hb3
          have f0 := B3.cell 0 rfl
          have f6 := B3.cell 6 rfl
          go_wp2_with fail
          refine (refCompare_any _ _ _ _ _ _ _ _ _ _ (((hsb.after hb1).after hb2).after hb3) (((hs2.after hb1).after hb2).after hb3) Nb Nrh).mono ?_
          rintro e w4 ⟨rfl, hb4⟩
          rw [← H2.out]
          have hW4 := hW3.trans (hb4.mono hW3.size)
          have B4 := B3.after hb4
          have g1 := B4.cell 1 rfl
          have g2 := B4.cell 2 rfl
          have g4 := B4.cell 4 rfl
          have g5 := B4.cell 5 rfl
          go_wp2_with fail
          go_ret
          exact ⟨by first | rfl | simp, hW4⟩
        · cases rlo
          · cases rhi
            · rw [show (!(true && (decide ((0 : Int) < 0) || (decide ((0 : Int) = 0) && false))) && (!false || decide (D < 0) || (decide (D = 0) && !rho))) = true from rfl]
              go_enter Tryd.func17, Tryd.ntmps17
              go_wp2_with fail
              refine (refMay_any _ _ _ _ _ _ _ _ _ _ _ _ _ _ hs1 Nrl hs2 Nrh).mono ?_
              rintro e w1 ⟨rfl, hb1⟩
              rw [hM]
              have hW := hb0.trans (hb1.mono hb0.size)
              have B1 := B0.after hb1
              have c0 := B1.cell 0 rfl
              go_wp2_with fail
              refine (refIs_any _ _ _ _ _ _ (hsb.after hb1) Nb).mono ?_
              rintro e w2 ⟨rfl, hb2⟩
              rw [hV]
              have hW2 := hW.trans (hb2.mono hW.size)
              have B2 := B1.after hb2
              have d0 := B2.cell 0 rfl
              have d3 := B2.cell 3 rfl
              have d6 := B2.cell 6 rfl
              go_wp2_with fail
              refine (refCompare_any _ _ _ _ _ _ _ _ _ _ ((hsb.after hb1).after hb2) ((hs1.after hb1).after hb2) Nb Nrl).mono ?_
              rintro e w3 ⟨rfl, hb3⟩
              rw [← H1.out]
              have hW3 := hW2.trans (hb3.mono hW2.size)
              have B3 := B2.after hb3
              have f0 := B3.cell 0 rfl
              have f6 := B3.cell 6 rfl
              go_wp2_with fail
              refine (refCompare_any _ _ _ _ _ _ _ _ _ _ (((hsb.after hb1).after hb2).after hb3) (((hs2.after hb1).after hb2).after hb3) Nb Nrh).mono ?_
              rintro e w4 ⟨rfl, hb4⟩
              rw [← H2.out]
              have hW4 := hW3.trans (hb4.mono hW3.size)
              have B4 := B3.after hb4
              have g1 := B4.cell 1 rfl
              have g2 := B4.cell 2 rfl
              have g4 := B4.cell 4 rfl
              have g5 := B4.cell 5 rfl
              go_wp2_with fail
              go_ret
              exact ⟨by first | rfl | simp, hW4⟩
            · rcases t2 with rfl | rfl | rfl
              all_goals
                go_enter Tryd.func17, Tryd.ntmps17
                go_wp2_with fail
                refine (refMay_any _ _ _ _ _ _ _ _ _ _ _ _ _ _ hs1 Nrl hs2 Nrh).mono ?_
                rintro e w1 ⟨rfl, hb1⟩
                rw [hM]
                have hW := hb0.trans (hb1.mono hb0.size)
                have B1 := B0.after hb1
                have c0 := B1.cell 0 rfl
                go_wp2_with fail
                refine (refIs_any _ _ _ _ _ _ (hsb.after hb1) Nb).mono ?_
                rintro e w2 ⟨rfl, hb2⟩
                rw [hV]
                have hW2 := hW.trans (hb2.mono hW.size)
                have B2 := B1.after hb2
                have d0 := B2.cell 0 rfl
                have d3 := B2.cell 3 rfl
                have d6 := B2.cell 6 rfl
                go_wp2_with fail
                refine (refCompare_any _ _ _ _ _ _ _ _ _ _ ((hsb.after hb1).after hb2) ((hs1.after hb1).after hb2) Nb Nrl).mono ?_
                rintro e w3 ⟨rfl, hb3⟩
                rw [← H1.out]
                have hW3 := hW2.trans (hb3.mono hW2.size)
                have B3 := B2.after hb3
                have f0 := B3.cell 0 rfl
                have f6 := B3.cell 6 rfl
                go_wp2_with fail
                refine (refCompare_any _ _ _ _ _ _ _ _ _ _ (((hsb.after hb1).after hb2).after hb3) (((hs2.after hb1).after hb2).after hb3) Nb Nrh).mono ?_
                rintro e w4 ⟨rfl, hb4⟩
                rw [← H2.out]
                have hW4 := hW3.trans (hb4.mono hW3.size)
                have B4 := B3.after hb4
                have g1 := B4.cell 1 rfl
                have g2 := B4.cell 2 rfl
                have g4 := B4.cell 4 rfl
                have g5 := B4.cell 5 rfl
                go_wp2_with fail
                go_ret
                exact ⟨by first | rfl | simp, hW4⟩
          · rw [show (!(true && (decide ((0 : Int) < 0) || (decide ((0 : Int) = 0) && true))) && (!rhi || decide (D < 0) || (decide (D = 0) && !rho))) = false from rfl]
            go_enter Tryd.func17, Tryd.ntmps17
            go_wp2_with fail
            refine (refMay_any _ _ _ _ _ _ _ _ _ _ _ _ _ _ hs1 Nrl hs2 Nrh).mono ?_
            rintro e w1 ⟨rfl, hb1⟩
            rw [hM]
            have hW := hb0.trans (hb1.mono hb0.size)
            have B1 := B0.after hb1
            have c0 := B1.cell 0 rfl
            go_wp2_with fail
            refine (refIs_any _ _ _ _ _ _ (hsb.after hb1) Nb).mono ?_
            rintro e w2 ⟨rfl, hb2⟩
            rw [hV]
            have hW2 := hW.trans (hb2.mono hW.size)
            have B2 := B1.after hb2
            have d0 := B2.cell 0 rfl
            have d3 := B2.cell 3 rfl
            have d6 := B2.cell 6 rfl
            go_wp2_with fail
            refine (refCompare_any _ _ _ _ _ _ _ _ _ _ ((hsb.after hb1).after hb2) ((hs1.after hb1).after hb2) Nb Nrl).mono ?_
            rintro e w3 ⟨rfl, hb3⟩
            rw [← H1.out]
            have hW3 := hW2.trans (hb3.mono hW2.size)
            have B3 := B2.after hb3
            have f0 := B3.cell 0 rfl
            have f6 := B3.cell 6 rfl
            go_wp2_with fail
            refine (refCompare_any _ _ _ _ _ _ _ _ _ _ (((hsb.after hb1).after hb2).after hb3) (((hs2.after hb1).after hb2).after hb3) Nb Nrh).mono ?_
            rintro e w4 ⟨rfl, hb4⟩
            rw [← H2.out]
            have hW4 := hW3.trans (hb4.mono hW3.size)
            have B4 := B3.after hb4
            have g1 := B4.cell 1 rfl
            have g2 := B4.cell 2 rfl
            have g4 := B4.cell 4 rfl
            have g5 := B4.cell 5 rfl
            go_wp2_with fail
            go_ret
            exact ⟨by first | rfl | simp, hW4⟩
        · cases rhi
          · rw [show (!(true && (decide ((1 : Int) < 0) || (decide ((1 : Int) = 0) && rlo))) && (!false || decide (D < 0) || (decide (D = 0) && !rho))) = true from rfl]
            go_enter Tryd.func17, Tryd.ntmps17
            go_wp2_with fail
            refine (refMay_any _ _ _ _ _ _ _ _ _ _ _ _ _ _ hs1 Nrl hs2 Nrh).mono ?_
            rintro e w1 ⟨rfl, hb1⟩
            rw [hM]
            have hW := hb0.trans (hb1.mono hb0.size)
            have B1 := B0.after hb1
            have c0 := B1.cell 0 rfl
            go_wp2_with fail
            refine (refIs_any _ _ _ _ _ _ (hsb.after hb1) Nb).mono ?_
            rintro e w2 ⟨rfl, hb2⟩
            rw [hV]
            have hW2 := hW.trans (hb2.mono hW.size)
            have B2 := B1.after hb2
            have d0 := B2.cell 0 rfl
            have d3 := B2.cell 3 rfl
            have d6 := B2.cell 6 rfl
            go_wp2_with fail
            refine (refCompare_any _ _ _ _ _ _ _ _ _ _ ((hsb.after hb1).after hb2) ((hs1.after hb1).after hb2) Nb Nrl).mono ?_
            rintro e w3 ⟨rfl, hb3⟩
            rw [← H1.out]
            have hW3 := hW2.trans (hb3.mono hW2.size)
            have B3 := B2.after hb3
            have f0 := B3.cell 0 rfl
            have f6 := B3.cell 6 rfl
            go_wp2_with fail
            refine (refCompare_any _ _ _ _ _ _ _ _ _ _ (((hsb.after hb1).after hb2).after hb3) (((hs2.after hb1).after hb2).after hb3) Nb Nrh).mono ?_
            rintro e w4 ⟨rfl, hb4⟩
            rw [← H2.out]
            have hW4 := hW3.trans (hb4.mono hW3.size)
            have B4 := B3.after hb4
            have g1 := B4.cell 1 rfl
            have g2 := B4.cell 2 rfl
            have g4 := B4.cell 4 rfl
            have g5 := B4.cell 5 rfl
            go_wp2_with fail
            go_ret
            exact ⟨by first | rfl | simp, hW4⟩
          · rcases t2 with rfl | rfl | rfl
            all_goals
              go_enter Tryd.func17, Tryd.ntmps17
              go_wp2_with fail
              refine (refMay_any _ _ _ _ _ _ _ _ _ _ _ _ _ _ hs1 Nrl hs2 Nrh).mono ?_
              rintro e w1 ⟨rfl, hb1⟩
              rw [hM]
              have hW := hb0.trans (hb1.mono hb0.size)
              have B1 := B0.after hb1
              have c0 := B1.cell 0 rfl
              go_wp2_with fail
              refine (refIs_any _ _ _ _ _ _ (hsb.after hb1) Nb).mono ?_
              rintro e w2 ⟨rfl, hb2⟩
              rw [hV]
              have hW2 := hW.trans (hb2.mono hW.size)
              have B2 := B1.after hb2
              have d0 := B2.cell 0 rfl
              have d3 := B2.cell 3 rfl
              have d6 := B2.cell 6 rfl
              go_wp2_with fail
              refine (refCompare_any _ _ _ _ _ _ _ _ _ _ ((hsb.after hb1).after hb2) ((hs1.after hb1).after hb2) Nb Nrl).mono ?_
              rintro e w3 ⟨rfl, hb3⟩
              rw [← H1.out]
              have hW3 := hW2.trans (hb3.mono hW2.size)
              have B3 := B2.after hb3
              have f0 := B3.cell 0 rfl
              have f6 := B3.cell 6 rfl
              go_wp2_with fail
              refine (refCompare_any _ _ _ _ _ _ _ _ _ _ (((hsb.after hb1).after hb2).after hb3) (((hs2.after hb1).after hb2).after hb3) Nb Nrh).mono ?_
              rintro e w4 ⟨rfl, hb4⟩
              rw [← H2.out]
              have hW4 := hW3.trans (hb4.mono hW3.size)
              have B4 := B3.after hb4
              have g1 := B4.cell 1 rfl
              have g2 := B4.cell 2 rfl
              have g4 := B4.cell 4 rfl
              have g5 := B4.cell 5 rfl
              go_wp2_with fail
              go_ret
              exact ⟨by first | rfl | simp, hW4⟩

set_option maxHeartbeats 8000000 in
set_option maxRecDepth 100000 in
theorem refEmpty_any (r : Nat) (rli rlo : Bool) (rla : Option Addr) (rln rlc : Nat) (rll : List UInt8) (rhi rho : Bool) (rha : Option Addr) (rhn rhc : Nat) (rhl : List UInt8) (w : World) (Srl : Sl w rla rln rlc rll) (Nrl : rln ≤ 200) (Srh : Sl w rha rhn rhc rhl) (Nrh : rhn ≤ 200) :
    Calls Tryd.prog 19 #[.agg #[.int .u8 r, .bool rli, .bool rlo, .slice rla rln rlc, .bool rhi, .bool rho, .slice rha rhn rhc]] w fun e w' => e = .returned (.bool (emptyB ⟨r, ⟨rli, rlo, rll⟩, ⟨rhi, rho, rhl⟩⟩)) ∧ Below w.heap.size w w' := by
  have hb0 : Below w.heap.size w (w.alloc (.cells #[.int .u8 r, .bool rli, .bool rlo, .slice rla rln rlc, .bool rhi, .bool rho, .slice rha rhn rhc] 31 (0, 0))) := (Below.refl _ _).alloc (Nat.le_refl _) _
  have hs1 := Srl.after hb0
  have hs2 := Srh.after hb0
  have B0 : Box (w.alloc (.cells #[.int .u8 r, .bool rli, .bool rlo, .slice rla rln rlc, .bool rhi, .bool rho, .slice rha rhn rhc] 31 (0, 0))) w.heap.size 31 #[.int .u8 r, .bool rli, .bool rlo, .slice rla rln rlc, .bool rhi, .bool rho, .slice rha rhn rhc] := Box.new _ _ _
  have q0 : emptyB ⟨r, ⟨rli, rlo, rll⟩, ⟨rhi, rho, rhl⟩⟩ = (mayB ⟨r, ⟨rli, rlo, rll⟩, ⟨rhi, rho, rhl⟩⟩ && rli && rhi && (decide (0 < cV r rll rhl) || (decide (cV r rll rhl = 0) && (rlo || rho)))) := rfl
  cases hM : mayB ⟨r, ⟨rli, rlo, rll⟩, ⟨rhi, rho, rhl⟩⟩
  · have q : emptyB ⟨r, ⟨rli, rlo, rll⟩, ⟨rhi, rho, rhl⟩⟩ = false := by rw [q0, hM]; rfl
    rw [q]
    go_enter Tryd.func19, Tryd.ntmps19
    go_wp2_with fail
    refine (refMay_any _ _ _ _ _ _ _ _ _ _ _ _ _ _ hs1 Nrl hs2 Nrh).mono ?_
    rintro e w1 ⟨rfl, hb1⟩
    rw [hM]
    have hW := hb0.trans (hb1.mono hb0.size)
    go_wp2_with fail
    go_ret
    exact ⟨rfl, hW⟩
  · obtain ⟨C, hC⟩ : ∃ C, C = cV r rll rhl := ⟨_, rfl⟩
    have h3 := cV_three r rll rhl
    rw [q0, hM, ← hC]
    rw [← hC] at h3
    have HC := Lib.hid hC
    clear hC q0
    cases rli
    · go_enter Tryd.func19, Tryd.ntmps19
      go_wp2_with fail
      refine (refMay_any _ _ _ _ _ _ _ _ _ _ _ _ _ _ hs1 Nrl hs2 Nrh).mono ?_
      rintro e w1 ⟨rfl, hb1⟩
      rw [hM]
      have hW := hb0.trans (hb1.mono hb0.size)
      have B1 := B0.after hb1
      have c1 := B1.cell 1 rfl
      go_wp2_with fail
      go_ret
      exact ⟨rfl, hW⟩
    · cases rhi
      · go_enter Tryd.func19, Tryd.ntmps19
        go_wp2_with fail
        refine (refMay_any _ _ _ _ _ _ _ _ _ _ _ _ _ _ hs1 Nrl hs2 Nrh).mono ?_
        rintro e w1 ⟨rfl, hb1⟩
        rw [hM]
        have hW := hb0.trans (hb1.mono hb0.size)
        have B1 := B0.after hb1
        have c1 := B1.cell 1 rfl
        have c4 := B1.cell 4 rfl
        go_wp2_with fail
        go_ret
        exact ⟨rfl, hW⟩
      · rcases h3 with rfl | rfl | rfl <;> cases rlo
        all_goals
          go_enter Tryd.func19, Tryd.ntmps19
          go_wp2_with fail
          refine (refMay_any _ _ _ _ _ _ _ _ _ _ _ _ _ _ hs1 Nrl hs2 Nrh).mono ?_
          rintro e w1 ⟨rfl, hb1⟩
          rw [hM]
          have hW := hb0.trans (hb1.mono hb0.size)
          have B1 := B0.after hb1
          have c0 := B1.cell 0 rfl
          have c1 := B1.cell 1 rfl
          have c3 := B1.cell 3 rfl
          have c4 := B1.cell 4 rfl
          have c6 := B1.cell 6 rfl
          go_wp2_with fail
          refine (refCompare_any _ _ _ _ _ _ _ _ _ _ (hs1.after hb1) (hs2.after hb1) Nrl Nrh).mono ?_
          rintro e w2 ⟨rfl, hb2⟩
          rw [← HC.out]
          have hW2 := hW.trans (hb2.mono hW.size)
          have B2 := B1.after hb2
          have d2 := B2.cell 2 rfl
          have d5 := B2.cell 5 rfl
          go_wp2_with fail
          go_ret
          exact ⟨by first | rfl | simp, hW2⟩

set_option maxHeartbeats 8000000 in
set_option maxRecDepth 100000 in
theorem refEnd_any (o : Nat) (xi xo : Bool) (xa : Option Addr) (xn xc : Nat) (xl : List UInt8) (yi yo : Bool) (ya : Option Addr) (yn yc : Nat) (yl : List UInt8) (t : Bool) (w : World) (Sx : Sl w xa xn xc xl) (Nx : xn ≤ 200) (Sy : Sl w ya yn yc yl) (Ny : yn ≤ 200) :
    Calls Tryd.prog 34 #[.int .u8 o, .agg #[.bool xi, .bool xo, .slice xa xn xc], .agg #[.bool yi, .bool yo, .slice ya yn yc], .bool t] w fun e w' => e = .returned (if refYB o ⟨xi, xo, xl⟩ ⟨yi, yo, yl⟩ t then .agg #[.bool yi, .bool yo, .slice ya yn yc] else .agg #[.bool xi, .bool xo, .slice xa xn xc]) ∧ Below w.heap.size w w' := by
  have hb0 : Below w.heap.size w (((w.alloc (.cells #[.bool xi, .bool xo, .slice xa xn xc] 29)).alloc (.cells #[.bool yi, .bool yo, .slice ya yn yc] 29)).alloc (.cells #[.bool false, .bool false, .slice none 0 0] 29)) := (((Below.refl _ _).alloc (Nat.le_refl _) _).alloc (by simp) _).alloc (by simp; omega) _
  have hs0 := Sx.after hb0
  have hs1 := Sy.after hb0
  have B5 : Box (((w.alloc (.cells #[.bool xi, .bool xo, .slice xa xn xc] 29)).alloc (.cells #[.bool yi, .bool yo, .slice ya yn yc] 29)).alloc (.cells #[.bool false, .bool false, .slice none 0 0] 29)) w.heap.size 29 #[.bool xi, .bool xo, .slice xa xn xc] := ((Box.new _ _ _).alloc _).alloc _
  have B6 : Box (((w.alloc (.cells #[.bool xi, .bool xo, .slice xa xn xc] 29)).alloc (.cells #[.bool yi, .bool yo, .slice ya yn yc] 29)).alloc (.cells #[.bool false, .bool false, .slice none 0 0] 29)) (w.heap.size + 1) 29 #[.bool yi, .bool yo, .slice ya yn yc] := (box_at (by simp)).alloc _
  have B8 : Box (((w.alloc (.cells #[.bool xi, .bool xo, .slice xa xn xc] 29)).alloc (.cells #[.bool yi, .bool yo, .slice ya yn yc] 29)).alloc (.cells #[.bool false, .bool false, .slice none 0 0] 29)) (w.heap.size + 2) 29 #[.bool false, .bool false, .slice none 0 0] := box_at (by simp)
  cases xi
  · have q : refYB o ⟨false, xo, xl⟩ ⟨yi, yo, yl⟩ t = true := rfl
    rw [q]
    go_enter Tryd.func34, Tryd.ntmps34
    go_wp2_with fail
    exact bodyPost_ret (box_result Tryd.results34 _ _ rfl (box_at (by simp)) Tryd.underlying29 rfl (by kernel_rfl)) rfl ⟨rfl, (((Below.refl _ _).alloc (Nat.le_refl _) _).alloc (by simp) _).alloc (by simp; omega) _⟩
  · cases yi
    · have q : refYB o ⟨true, xo, xl⟩ ⟨false, yo, yl⟩ t = false := rfl
      rw [q]
      go_enter Tryd.func34, Tryd.ntmps34
      go_wp2_with fail
      exact bodyPost_ret (box_result Tryd.results34 _ _ rfl (box_at (by simp)) Tryd.underlying29 rfl (by kernel_rfl)) rfl ⟨rfl, (((Below.refl _ _).alloc (Nat.le_refl _) _).alloc (by simp) _).alloc (by simp; omega) _⟩
    · have h3 := cV_three o xl yl
      obtain ⟨C, hC⟩ : ∃ C, C = cV o xl yl := ⟨_, rfl⟩
      have q : refYB o ⟨true, xo, xl⟩ ⟨true, yo, yl⟩ t = (if C = 0 then yo && !xo else !(decide (0 < C) == t)) := by rw [hC]; rfl
      rw [q]
      rw [← hC] at h3
      have HC := Lib.hid hC
      have kB : ∀ j v W, Below w.heap.size w W → Below w.heap.size w (W.setCell ⟨w.heap.size + 1 + 1, j, none⟩ v) := fun j v W h => h.setCell (by dsimp only; omega) v
      clear hC q
      rcases h3 with rfl | rfl | rfl
      · rw [show (if (-1 : Int) = 0 then yo && !xo else !(decide (0 < (-1 : Int)) == t)) = !(false == t) from rfl]
        cases t
        all_goals
          go_enter Tryd.func34, Tryd.ntmps34
          go_wp2_with fail
          refine (refCompare_any _ _ _ _ _ _ _ _ _ _ hs0 hs1 Nx Ny).mono ?_
          rintro e w1 ⟨rfl, hb1⟩
          rw [← HC.out]
          have hW := hb0.trans (hb1.mono hb0.size)
          have C5 := B5.after hb1
          have C6 := B6.after hb1
          have C8 := B8.after hb1
          have c0 := C5.cell 0 rfl
          have c1 := C5.cell 1 rfl
          have c2 := C5.cell 2 rfl
          have d0 := C6.cell 0 rfl
          have d1 := C6.cell 1 rfl
          have d2 := C6.cell 2 rfl
          have e0 := C8.cell 0 rfl
          have e1 := C8.cell 1 rfl
          have e2 := C8.cell 2 rfl
          have f0 := C8.frozen 0
          have f1 := C8.frozen 1
          have f2 := C8.frozen 2
          go_wp2_with fail
          exact bodyPost_ret (box_result Tryd.results34 _ _ rfl (((C8.set 0 _).set 1 _).set 2 _) Tryd.underlying29 rfl (by kernel_rfl)) rfl ⟨rfl, kB _ _ _ (kB _ _ _ (kB _ _ _ hW))⟩
      · rw [show (if (0 : Int) = 0 then yo && !xo else !(decide (0 < (0 : Int)) == t)) = (yo && !xo) from rfl]
        cases xo <;> cases yo
        all_goals
          go_enter Tryd.func34, Tryd.ntmps34
          go_wp2_with fail
          refine (refCompare_any _ _ _ _ _ _ _ _ _ _ hs0 hs1 Nx Ny).mono ?_
          rintro e w1 ⟨rfl, hb1⟩
          rw [← HC.out]
          have hW := hb0.trans (hb1.mono hb0.size)
          have C5 := B5.after hb1
          have C6 := B6.after hb1
          have C8 := B8.after hb1
          have c0 := C5.cell 0 rfl
          have c1 := C5.cell 1 rfl
          have c2 := C5.cell 2 rfl
          have d0 := C6.cell 0 rfl
          have d1 := C6.cell 1 rfl
          have d2 := C6.cell 2 rfl
          have e0 := C8.cell 0 rfl
          have e1 := C8.cell 1 rfl
          have e2 := C8.cell 2 rfl
          have f0 := C8.frozen 0
          have f1 := C8.frozen 1
          have f2 := C8.frozen 2
          go_wp2_with fail
          exact bodyPost_ret (box_result Tryd.results34 _ _ rfl (((C8.set 0 _).set 1 _).set 2 _) Tryd.underlying29 rfl (by kernel_rfl)) rfl ⟨rfl, kB _ _ _ (kB _ _ _ (kB _ _ _ hW))⟩
      · rw [show (if (1 : Int) = 0 then yo && !xo else !(decide (0 < (1 : Int)) == t)) = !(true == t) from rfl]
        cases t
        all_goals
          go_enter Tryd.func34, Tryd.ntmps34
          go_wp2_with fail
          refine (refCompare_any _ _ _ _ _ _ _ _ _ _ hs0 hs1 Nx Ny).mono ?_
          rintro e w1 ⟨rfl, hb1⟩
          rw [← HC.out]
          have hW := hb0.trans (hb1.mono hb0.size)
          have C5 := B5.after hb1
          have C6 := B6.after hb1
          have C8 := B8.after hb1
          have c0 := C5.cell 0 rfl
          have c1 := C5.cell 1 rfl
          have c2 := C5.cell 2 rfl
          have d0 := C6.cell 0 rfl
          have d1 := C6.cell 1 rfl
          have d2 := C6.cell 2 rfl
          have e0 := C8.cell 0 rfl
          have e1 := C8.cell 1 rfl
          have e2 := C8.cell 2 rfl
          have f0 := C8.frozen 0
          have f1 := C8.frozen 1
          have f2 := C8.frozen 2
          go_wp2_with fail
          exact bodyPost_ret (box_result Tryd.results34 _ _ rfl (((C8.set 0 _).set 1 _).set 2 _) Tryd.underlying29 rfl (by kernel_rfl)) rfl ⟨rfl, kB _ _ _ (kB _ _ _ (kB _ _ _ hW))⟩

set_option maxHeartbeats 8000000 in
set_option maxRecDepth 100000 in
theorem same_any (xi xo : Bool) (xa : Option Addr) (xn xc : Nat) (xl : List UInt8) (yi yo : Bool) (ya : Option Addr) (yn yc : Nat) (yl : List UInt8) (w : World) (Sx : Sl w xa xn xc xl) (Sy : Sl w ya yn yc yl) :
    Calls Tryd.prog 35 #[.agg #[.bool xi, .bool xo, .slice xa xn xc], .agg #[.bool yi, .bool yo, .slice ya yn yc]] w fun e w' => e = .returned (.bool (sameBd ⟨xi, xo, xl⟩ ⟨yi, yo, yl⟩)) ∧ Below w.heap.size w w' := by
  have hb0 : Below w.heap.size w ((w.alloc (.cells #[.bool xi, .bool xo, .slice xa xn xc] 29)).alloc (.cells #[.bool yi, .bool yo, .slice ya yn yc] 29)) := ((Below.refl _ _).alloc (Nat.le_refl _) _).alloc (by simp) _
  have v1 := conv_sl (Sx.after hb0)
  have v2 := conv_sl (Sy.after hb0)
  have q : sameBd ⟨xi, xo, xl⟩ ⟨yi, yo, yl⟩ = (xi == yi && xo == yo && decide (xl = yl)) := rfl
  rw [q]
  clear q
  by_cases hi : xi = yi
  · subst hi
    rw [beq_self_eq_true, Bool.true_and]
    by_cases ho : xo = yo
    · subst ho
      rw [beq_self_eq_true, Bool.true_and]
      by_cases hl : xl = yl
      · subst hl
        rw [decide_eq_true rfl]
        go_enter Tryd.func35, Tryd.ntmps35
        go_wp2_with fail
        go_ret
        exact ⟨rfl, hb0⟩
      · rw [decide_eq_false hl]
        have x4 : (xl == yl) = false := by simpa using hl
        clear hl
        go_enter Tryd.func35, Tryd.ntmps35
        go_wp2_with fail
        go_ret
        exact ⟨rfl, hb0⟩
    · have x4 : (xo == yo) = false := by simpa using ho
      rw [x4, Bool.false_and]
      clear ho
      go_enter Tryd.func35, Tryd.ntmps35
      go_wp2_with fail
      go_ret
      exact ⟨rfl, hb0⟩
  · have x4 : (xi == yi) = false := by simpa using hi
    rw [x4, Bool.false_and, Bool.false_and]
    clear hi
    go_enter Tryd.func35, Tryd.ntmps35
    go_wp2_with fail
    go_ret
    exact ⟨rfl, hb0⟩

set_option maxHeartbeats 8000000 in
set_option maxRecDepth 100000 in
theorem sameR_any (r : Nat) (rli rlo : Bool) (rla : Option Addr) (rln rlc : Nat) (rll : List UInt8) (rhi rho : Bool) (rha : Option Addr) (rhn rhc : Nat) (rhl : List UInt8) (s : Nat) (sli slo : Bool) (sla : Option Addr) (sln slc : Nat) (sll : List UInt8) (shi sho : Bool) (sha : Option Addr) (shn shc : Nat) (shl : List UInt8) (w : World) (Srl : Sl w rla rln rlc rll) (Srh : Sl w rha rhn rhc rhl) (Ssl : Sl w sla sln slc sll) (Ssh : Sl w sha shn shc shl) :
    Calls Tryd.prog 22 #[.agg #[.int .u8 r, .bool rli, .bool rlo, .slice rla rln rlc, .bool rhi, .bool rho, .slice rha rhn rhc], .agg #[.int .u8 s, .bool sli, .bool slo, .slice sla sln slc, .bool shi, .bool sho, .slice sha shn shc]] w fun e w' => e = .returned (.bool (sameR ⟨r, ⟨rli, rlo, rll⟩, ⟨rhi, rho, rhl⟩⟩ ⟨s, ⟨sli, slo, sll⟩, ⟨shi, sho, shl⟩⟩)) ∧ Below w.heap.size w w' := by
  have hb0 : Below w.heap.size w ((w.alloc (.cells #[.int .u8 r, .bool rli, .bool rlo, .slice rla rln rlc, .bool rhi, .bool rho, .slice rha rhn rhc] 31)).alloc (.cells #[.int .u8 s, .bool sli, .bool slo, .slice sla sln slc, .bool shi, .bool sho, .slice sha shn shc] 31)) := ((Below.refl _ _).alloc (Nat.le_refl _) _).alloc (by simp) _
  have A0 : Box ((w.alloc (.cells #[.int .u8 r, .bool rli, .bool rlo, .slice rla rln rlc, .bool rhi, .bool rho, .slice rha rhn rhc] 31)).alloc (.cells #[.int .u8 s, .bool sli, .bool slo, .slice sla sln slc, .bool shi, .bool sho, .slice sha shn shc] 31)) w.heap.size 31 #[.int .u8 r, .bool rli, .bool rlo, .slice rla rln rlc, .bool rhi, .bool rho, .slice rha rhn rhc] := (Box.new _ _ _).alloc _
  have B0 : Box ((w.alloc (.cells #[.int .u8 r, .bool rli, .bool rlo, .slice rla rln rlc, .bool rhi, .bool rho, .slice rha rhn rhc] 31)).alloc (.cells #[.int .u8 s, .bool sli, .bool slo, .slice sla sln slc, .bool shi, .bool sho, .slice sha shn shc] 31)) (w.heap.size + 1) 31 #[.int .u8 s, .bool sli, .bool slo, .slice sla sln slc, .bool shi, .bool sho, .slice sha shn shc] := box_at (by simp)
  have q : sameR ⟨r, ⟨rli, rlo, rll⟩, ⟨rhi, rho, rhl⟩⟩ ⟨s, ⟨sli, slo, sll⟩, ⟨shi, sho, shl⟩⟩ = (decide (r = s) && sameBd ⟨rli, rlo, rll⟩ ⟨sli, slo, sll⟩ && sameBd ⟨rhi, rho, rhl⟩ ⟨shi, sho, shl⟩) := rfl
  rw [q]
  obtain ⟨X, hX⟩ : ∃ X, X = sameBd ⟨rli, rlo, rll⟩ ⟨sli, slo, sll⟩ := ⟨_, rfl⟩
  obtain ⟨Y, hY⟩ : ∃ Y, Y = sameBd ⟨rhi, rho, rhl⟩ ⟨shi, sho, shl⟩ := ⟨_, rfl⟩
  rw [← hX, ← hY]
  have HX := Lib.hid hX
  have HY := Lib.hid hY
  clear q hX hY
  by_cases ho : r = s
  · subst ho
    rw [decide_eq_true rfl, Bool.true_and]
    have hne : ((r : Int) == (r : Int)) = true := by simp
    cases X
    · rw [Bool.false_and]
      go_enter Tryd.func22, Tryd.ntmps22
      go_wp2_with fail
      refine (same_any _ _ _ _ _ _ _ _ _ _ _ _ _ (Srl.after hb0) (Ssl.after hb0)).mono ?_
      rintro e w1 ⟨rfl, hb1⟩
      rw [← HX.out]
      have hW := hb0.trans (hb1.mono hb0.size)
      have A1 := A0.after hb1
      have B1 := B0.after hb1
      go_wp2_with fail
      go_ret
      exact ⟨rfl, hW⟩
    · rw [Bool.true_and]
      go_enter Tryd.func22, Tryd.ntmps22
      go_wp2_with fail
      refine (same_any _ _ _ _ _ _ _ _ _ _ _ _ _ (Srl.after hb0) (Ssl.after hb0)).mono ?_
      rintro e w1 ⟨rfl, hb1⟩
      rw [← HX.out]
      have hW := hb0.trans (hb1.mono hb0.size)
      have A1 := A0.after hb1
      have B1 := B0.after hb1
      have c4 := A1.cell 4 rfl
      have c5 := A1.cell 5 rfl
      have c6 := A1.cell 6 rfl
      have d4 := B1.cell 4 rfl
      have d5 := B1.cell 5 rfl
      have d6 := B1.cell 6 rfl
      go_wp2_with fail
      refine (same_any _ _ _ _ _ _ _ _ _ _ _ _ _ ((Srh.after hb0).after hb1) ((Ssh.after hb0).after hb1)).mono ?_
      rintro e w2 ⟨rfl, hb2⟩
      rw [← HY.out]
      have hW2 := hW.trans (hb2.mono hW.size)
      go_wp2_with fail
      go_ret
      exact ⟨rfl, hW2⟩
  · rw [decide_eq_false ho, Bool.false_and, Bool.false_and]
    have hne : ((r : Int) == (s : Int)) = false := by rw [beq_eq_false_iff_ne]; omega
    clear ho
    go_enter Tryd.func22, Tryd.ntmps22
    go_wp2_with fail
    go_ret
    exact ⟨rfl, hb0⟩

set_option maxRecDepth 100000 in
theorem great_any (r : Nat) (rli rlo : Bool) (rla : Option Addr) (rln rlc : Nat)  (rhi rho : Bool) (rha : Option Addr) (rhn rhc : Nat)  (w : World) :
    Calls Tryd.prog 13 #[.agg #[.int .u8 r, .bool rli, .bool rlo, .slice rla rln rlc, .bool rhi, .bool rho, .slice rha rhn rhc]] w fun e w' => e = .returned (.bool (decide (200 < rln) || decide (200 < rhn))) ∧ Below w.heap.size w w' := by
  have hb0 : Below w.heap.size w (w.alloc (.cells #[.int .u8 r, .bool rli, .bool rlo, .slice rla rln rlc, .bool rhi, .bool rho, .slice rha rhn rhc] 31 (0, 0))) := (Below.refl _ _).alloc (Nat.le_refl _) _
  by_cases h1 : 200 < rln
  · rw [decide_eq_true h1, Bool.true_or]
    have h2 : (200 : Int) < rln := by omega
    clear h1
    go_enter Tryd.func13, Tryd.ntmps13
    go_wp2_with fail
    go_ret
    exact ⟨rfl, hb0⟩
  · rw [decide_eq_false h1, Bool.false_or]
    have h2 : (rln : Int) ≤ 200 := by omega
    clear h1
    by_cases h3 : 200 < rhn
    · rw [decide_eq_true h3]
      have h4 : (200 : Int) < rhn := by omega
      clear h3
      go_enter Tryd.func13, Tryd.ntmps13
      go_wp2_with fail
      go_ret
      exact ⟨rfl, hb0⟩
    · rw [decide_eq_false h3]
      have h4 : (rhn : Int) ≤ 200 := by omega
      clear h3
      go_enter Tryd.func13, Tryd.ntmps13
      go_wp2_with fail
      go_ret
      exact ⟨by rw [← show (decide ((200 : Int) < rln) || decide ((200 : Int) < rhn)) = false by simp; omega]; rfl, hb0⟩
end Go.Proofs.YtoadpeigomkgiaaDoor

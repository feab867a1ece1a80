/- Empty, inside, Within of the program: what they compute. -/
import Derived.Test.YtoadpeigomkgiaaDoorOrd7
namespace Go.Proofs.YtoadpeigomkgiaaDoor
open Go.RowKit

set_option maxHeartbeats 8000000 in
set_option maxRecDepth 100000 in
theorem empty_any (r : Nat) (rli rlo : Bool) (rla : Option Addr) (rln rlc : Nat) (rll : List UInt8) (rhi rho : Bool) (rha : Option Addr) (rhn rhc : Nat) (rhl : List UInt8) (w : World) (Srl : Sl w rla rln rlc rll) (Nrl : rln ≤ 200) (Srh : Sl w rha rhn rhc rhl) (Nrh : rhn ≤ 200) :
    Calls Tryd.prog 18 #[.agg #[.int .u8 r, .bool rli, .bool rlo, .slice rla rln rlc, .bool rhi, .bool rho, .slice rha rhn rhc]] w fun e w' => e = .returned (.bool (emptyB ⟨r, ⟨rli, rlo, rll⟩, ⟨rhi, rho, rhl⟩⟩)) ∧ Below w.heap.size w w' := by
  have hb0 : Below w.heap.size w (w.alloc (.cells #[.int .u8 r, .bool rli, .bool rlo, .slice rla rln rlc, .bool rhi, .bool rho, .slice rha rhn rhc] 31 (0, 0))) := (Below.refl _ _).alloc (Nat.le_refl _) _
  have hs1 := Srl.after hb0
  have hs2 := Srh.after hb0
  have B0 : Box (w.alloc (.cells #[.int .u8 r, .bool rli, .bool rlo, .slice rla rln rlc, .bool rhi, .bool rho, .slice rha rhn rhc] 31 (0, 0))) w.heap.size 31 #[.int .u8 r, .bool rli, .bool rlo, .slice rla rln rlc, .bool rhi, .bool rho, .slice rha rhn rhc] := Box.new _ _ _
  have q0 : emptyB ⟨r, ⟨rli, rlo, rll⟩, ⟨rhi, rho, rhl⟩⟩ = (mayB ⟨r, ⟨rli, rlo, rll⟩, ⟨rhi, rho, rhl⟩⟩ && rli && rhi && (decide (0 < cV r rll rhl) || (decide (cV r rll rhl = 0) && (rlo || rho)))) := rfl
  cases hM : mayB ⟨r, ⟨rli, rlo, rll⟩, ⟨rhi, rho, rhl⟩⟩
  · have q : emptyB ⟨r, ⟨rli, rlo, rll⟩, ⟨rhi, rho, rhl⟩⟩ = false := by rw [q0, hM]; rfl
    rw [q]
    go_enter Tryd.func18, Tryd.ntmps18
    go_wp2_with fail
    refine (may_any _ _ _ _ _ _ _ _ _ _ _ _ _ _ hs1 Nrl hs2 Nrh).mono ?_
    rintro e w1 ⟨rfl, hb1⟩
    rw [hM]
    have hW := hb0.trans (hb1.mono hb0.size)
    go_wp2_with fail
    go_ret
    exact ⟨rfl, hW⟩
  · obtain ⟨C, hC⟩ : ∃ C, C = cV r rll rhl := ⟨_, rfl⟩
    have h3 := cV_three r rll rhl
    rw [q0, hM, ← hC]
    rw [← hC] at h3
    have HC := Lib.hid hC
    clear hC q0
    cases rli
    · go_enter Tryd.func18, Tryd.ntmps18
      go_wp2_with fail
      refine (may_any _ _ _ _ _ _ _ _ _ _ _ _ _ _ hs1 Nrl hs2 Nrh).mono ?_
      rintro e w1 ⟨rfl, hb1⟩
      rw [hM]
      have hW := hb0.trans (hb1.mono hb0.size)
      have B1 := B0.after hb1
      have c1 := B1.cell 1 rfl
      go_wp2_with fail
      go_ret
      exact ⟨rfl, hW⟩
    · cases rhi
      · go_enter Tryd.func18, Tryd.ntmps18
        go_wp2_with fail
        refine (may_any _ _ _ _ _ _ _ _ _ _ _ _ _ _ hs1 Nrl hs2 Nrh).mono ?_
        rintro e w1 ⟨rfl, hb1⟩
        rw [hM]
        have hW := hb0.trans (hb1.mono hb0.size)
        have B1 := B0.after hb1
        have c1 := B1.cell 1 rfl
        have c4 := B1.cell 4 rfl
        go_wp2_with fail
        go_ret
        exact ⟨rfl, hW⟩
      · rcases h3 with rfl | rfl | rfl <;> cases rlo
        all_goals
          go_enter Tryd.func18, Tryd.ntmps18
          go_wp2_with fail
          refine (may_any _ _ _ _ _ _ _ _ _ _ _ _ _ _ hs1 Nrl hs2 Nrh).mono ?_
          rintro e w1 ⟨rfl, hb1⟩
          rw [hM]
          have hW := hb0.trans (hb1.mono hb0.size)
          have B1 := B0.after hb1
          have c0 := B1.cell 0 rfl
          have c1 := B1.cell 1 rfl
          have c3 := B1.cell 3 rfl
          have c4 := B1.cell 4 rfl
          have c6 := B1.cell 6 rfl
          go_wp2_with fail
          refine (compare_any _ _ _ _ _ _ _ _ _ _ (hs1.after hb1) (hs2.after hb1) Nrl Nrh).mono ?_
          rintro e w2 ⟨rfl, hb2⟩
          rw [← HC.out]
          have hW2 := hW.trans (hb2.mono hW.size)
          have B2 := B1.after hb2
          have d2 := B2.cell 2 rfl
          have d5 := B2.cell 5 rfl
          go_wp2_with fail
          go_ret
          exact ⟨by first | rfl | simp, hW2⟩

set_option maxHeartbeats 8000000 in
set_option maxRecDepth 100000 in
theorem inside_any (o : Nat) (xi xo : Bool) (xa : Option Addr) (xn xc : Nat) (xl : List UInt8) (yi yo : Bool) (ya : Option Addr) (yn yc : Nat) (yl : List UInt8) (t : Int) (ht : t = 1 ∨ t = -1) (w : World) (Sx : Sl w xa xn xc xl) (Nx : xn ≤ 200) (Sy : Sl w ya yn yc yl) (Ny : yn ≤ 200) :
    Calls Tryd.prog 33 #[.int .u8 o, .agg #[.bool xi, .bool xo, .slice xa xn xc], .agg #[.bool yi, .bool yo, .slice ya yn yc], .int .i64 t] w fun e w' => e = .returned (.bool (insB o ⟨xi, xo, xl⟩ ⟨yi, yo, yl⟩ t)) ∧ Below w.heap.size w w' := by
  have hb0 : Below w.heap.size w ((w.alloc (.cells #[.bool xi, .bool xo, .slice xa xn xc] 29)).alloc (.cells #[.bool yi, .bool yo, .slice ya yn yc] 29)) := ((Below.refl _ _).alloc (Nat.le_refl _) _).alloc (by simp) _
  have hs0 := Sx.after hb0
  have hs1 := Sy.after hb0
  have B5 : Box ((w.alloc (.cells #[.bool xi, .bool xo, .slice xa xn xc] 29)).alloc (.cells #[.bool yi, .bool yo, .slice ya yn yc] 29)) w.heap.size 29 #[.bool xi, .bool xo, .slice xa xn xc] := (Box.new _ _ _).alloc _
  have B6 : Box ((w.alloc (.cells #[.bool xi, .bool xo, .slice xa xn xc] 29)).alloc (.cells #[.bool yi, .bool yo, .slice ya yn yc] 29)) (w.heap.size + 1) 29 #[.bool yi, .bool yo, .slice ya yn yc] := box_at (by simp)
  cases yi
  · have q : insB o ⟨xi, xo, xl⟩ ⟨false, yo, yl⟩ t = true := rfl
    rw [q]
    go_enter Tryd.func33, Tryd.ntmps33
    go_wp2_with fail
    go_ret
    exact ⟨rfl, hb0⟩
  · cases xi
    · have q : insB o ⟨false, xo, xl⟩ ⟨true, yo, yl⟩ t = false := rfl
      rw [q]
      go_enter Tryd.func33, Tryd.ntmps33
      go_wp2_with fail
      go_ret
      exact ⟨rfl, hb0⟩
    · have h3 := cV_three o xl yl
      obtain ⟨C, hC⟩ : ∃ C, C = cV o xl yl := ⟨_, rfl⟩
      have q : insB o ⟨true, xo, xl⟩ ⟨true, yo, yl⟩ t = (decide (0 < t * C) || (decide (C = 0) && (xo || !yo))) := by rw [hC]; rfl
      rw [q]
      rw [← hC] at h3
      have HC := Lib.hid hC
      clear hC q
      rcases h3 with rfl | rfl | rfl <;> rcases ht with rfl | rfl <;> cases xo
      all_goals
        go_enter Tryd.func33, Tryd.ntmps33
        go_wp2_with fail
        refine (compare_any _ _ _ _ _ _ _ _ _ _ hs0 hs1 Nx Ny).mono ?_
        rintro e w1 ⟨rfl, hb1⟩
        rw [← HC.out]
        have hW := hb0.trans (hb1.mono hb0.size)
        have C5 := B5.after hb1
        have C6 := B6.after hb1
        have c1 := C5.cell 1 rfl
        have d1 := C6.cell 1 rfl
        go_wp2_with fail
        go_ret
        exact ⟨by first | rfl | simp, hW⟩

set_option maxHeartbeats 8000000 in
set_option maxRecDepth 100000 in
theorem within_any (r : Nat) (rli rlo : Bool) (rla : Option Addr) (rln rlc : Nat) (rll : List UInt8) (rhi rho : Bool) (rha : Option Addr) (rhn rhc : Nat) (rhl : List UInt8) (s : Nat) (sli slo : Bool) (sla : Option Addr) (sln slc : Nat) (sll : List UInt8) (shi sho : Bool) (sha : Option Addr) (shn shc : Nat) (shl : List UInt8) (w : World) (Srl : Sl w rla rln rlc rll) (Nrl : rln ≤ 200) (Srh : Sl w rha rhn rhc rhl) (Nrh : rhn ≤ 200) (Ssl : Sl w sla sln slc sll) (Nsl : sln ≤ 200) (Ssh : Sl w sha shn shc shl) (Nsh : shn ≤ 200) :
    Calls Tryd.prog 20 #[.agg #[.int .u8 r, .bool rli, .bool rlo, .slice rla rln rlc, .bool rhi, .bool rho, .slice rha rhn rhc], .agg #[.int .u8 s, .bool sli, .bool slo, .slice sla sln slc, .bool shi, .bool sho, .slice sha shn shc]] w fun e w' => e = .returned (.bool (withinB ⟨r, ⟨rli, rlo, rll⟩, ⟨rhi, rho, rhl⟩⟩ ⟨s, ⟨sli, slo, sll⟩, ⟨shi, sho, shl⟩⟩)) ∧ Below w.heap.size w w' := by
  have hb0 : Below w.heap.size w ((w.alloc (.cells #[.int .u8 r, .bool rli, .bool rlo, .slice rla rln rlc, .bool rhi, .bool rho, .slice rha rhn rhc] 31)).alloc (.cells #[.int .u8 s, .bool sli, .bool slo, .slice sla sln slc, .bool shi, .bool sho, .slice sha shn shc] 31)) := ((Below.refl _ _).alloc (Nat.le_refl _) _).alloc (by simp) _
  have hr1 := Srl.after hb0
  have hr2 := Srh.after hb0
  have hs1 := Ssl.after hb0
  have hs2 := Ssh.after hb0
  have A0 : Box ((w.alloc (.cells #[.int .u8 r, .bool rli, .bool rlo, .slice rla rln rlc, .bool rhi, .bool rho, .slice rha rhn rhc] 31)).alloc (.cells #[.int .u8 s, .bool sli, .bool slo, .slice sla sln slc, .bool shi, .bool sho, .slice sha shn shc] 31)) w.heap.size 31 #[.int .u8 r, .bool rli, .bool rlo, .slice rla rln rlc, .bool rhi, .bool rho, .slice rha rhn rhc] := (Box.new _ _ _).alloc _
  have B0 : Box ((w.alloc (.cells #[.int .u8 r, .bool rli, .bool rlo, .slice rla rln rlc, .bool rhi, .bool rho, .slice rha rhn rhc] 31)).alloc (.cells #[.int .u8 s, .bool sli, .bool slo, .slice sla sln slc, .bool shi, .bool sho, .slice sha shn shc] 31)) (w.heap.size + 1) 31 #[.int .u8 s, .bool sli, .bool slo, .slice sla sln slc, .bool shi, .bool sho, .slice sha shn shc] := box_at (by simp)
  have q0 : withinB ⟨r, ⟨rli, rlo, rll⟩, ⟨rhi, rho, rhl⟩⟩ ⟨s, ⟨sli, slo, sll⟩, ⟨shi, sho, shl⟩⟩ = ((mayB ⟨r, ⟨rli, rlo, rll⟩, ⟨rhi, rho, rhl⟩⟩ && mayB ⟨s, ⟨sli, slo, sll⟩, ⟨shi, sho, shl⟩⟩ && decide (r = s)) && (emptyB ⟨r, ⟨rli, rlo, rll⟩, ⟨rhi, rho, rhl⟩⟩ || insB r ⟨rli, rlo, rll⟩ ⟨sli, slo, sll⟩ 1 && insB r ⟨rhi, rho, rhl⟩ ⟨shi, sho, shl⟩ (-1))) := rfl
  cases hM : mayB ⟨r, ⟨rli, rlo, rll⟩, ⟨rhi, rho, rhl⟩⟩
  · have q : withinB ⟨r, ⟨rli, rlo, rll⟩, ⟨rhi, rho, rhl⟩⟩ ⟨s, ⟨sli, slo, sll⟩, ⟨shi, sho, shl⟩⟩ = false := by rw [q0, hM]; rfl
    rw [q]
    go_enter Tryd.func20, Tryd.ntmps20
    go_wp2_with fail
    refine (may_any _ _ _ _ _ _ _ _ _ _ _ _ _ _ hr1 Nrl hr2 Nrh).mono ?_
    rintro e w1 ⟨rfl, hb1⟩
    rw [hM]
    have hW := hb0.trans (hb1.mono hb0.size)
    go_wp2_with fail
    go_ret
    exact ⟨rfl, hW⟩
  · cases hM2 : mayB ⟨s, ⟨sli, slo, sll⟩, ⟨shi, sho, shl⟩⟩
    · have q : withinB ⟨r, ⟨rli, rlo, rll⟩, ⟨rhi, rho, rhl⟩⟩ ⟨s, ⟨sli, slo, sll⟩, ⟨shi, sho, shl⟩⟩ = false := by rw [q0, hM, hM2]; rfl
      rw [q]
      go_enter Tryd.func20, Tryd.ntmps20
      go_wp2_with fail
      refine (may_any _ _ _ _ _ _ _ _ _ _ _ _ _ _ hr1 Nrl hr2 Nrh).mono ?_
      rintro e w1 ⟨rfl, hb1⟩
      rw [hM]
      have hW := hb0.trans (hb1.mono hb0.size)
      have A1 := A0.after hb1
      have B1 := B0.after hb1
      have c0 := B1.cell 0 rfl
      have c1 := B1.cell 1 rfl
      have c2 := B1.cell 2 rfl
      have c3 := B1.cell 3 rfl
      have c4 := B1.cell 4 rfl
      have c5 := B1.cell 5 rfl
      have c6 := B1.cell 6 rfl
      go_wp2_with fail
      refine (may_any _ _ _ _ _ _ _ _ _ _ _ _ _ _ (hs1.after hb1) Nsl (hs2.after hb1) Nsh).mono ?_
      rintro e w2 ⟨rfl, hb2⟩
      rw [hM2]
      have hW2 := hW.trans (hb2.mono hW.size)
      have A2 := A1.after hb2
      have B2 := B1.after hb2
      go_wp2_with fail
      go_ret
      exact ⟨rfl, hW2⟩
    · by_cases ho : r = s
      · subst ho
        have hne : ((r : Int) != (r : Int)) = false := by simp
        cases hE : emptyB ⟨r, ⟨rli, rlo, rll⟩, ⟨rhi, rho, rhl⟩⟩
        · obtain ⟨X, hX⟩ : ∃ X, X = insB r ⟨rhi, rho, rhl⟩ ⟨shi, sho, shl⟩ (-1) := ⟨_, rfl⟩
          obtain ⟨Y, hY⟩ : ∃ Y, Y = insB r ⟨rli, rlo, rll⟩ ⟨sli, slo, sll⟩ 1 := ⟨_, rfl⟩
          have q : withinB ⟨r, ⟨rli, rlo, rll⟩, ⟨rhi, rho, rhl⟩⟩ ⟨r, ⟨sli, slo, sll⟩, ⟨shi, sho, shl⟩⟩ = (Y && X) := by rw [q0, hM, hM2, hE, hX, hY]; simp
          rw [q]
          have HX := Lib.hid hX
          have HY := Lib.hid hY
          clear q q0 hX hY
          cases Y
          all_goals
            go_enter Tryd.func20, Tryd.ntmps20
            go_wp2_with fail
            refine (may_any _ _ _ _ _ _ _ _ _ _ _ _ _ _ hr1 Nrl hr2 Nrh).mono ?_
            rintro e w1 ⟨rfl, hb1⟩
            rw [hM]
            have hW := hb0.trans (hb1.mono hb0.size)
            have A1 := A0.after hb1
            have B1 := B0.after hb1
            have c0 := B1.cell 0 rfl
            have c1 := B1.cell 1 rfl
            have c2 := B1.cell 2 rfl
            have c3 := B1.cell 3 rfl
            have c4 := B1.cell 4 rfl
            have c5 := B1.cell 5 rfl
            have c6 := B1.cell 6 rfl
            go_wp2_with fail
            refine (may_any _ _ _ _ _ _ _ _ _ _ _ _ _ _ (hs1.after hb1) Nsl (hs2.after hb1) Nsh).mono ?_
            rintro e w2 ⟨rfl, hb2⟩
            rw [hM2]
            have hW2 := hW.trans (hb2.mono hW.size)
            have A2 := A1.after hb2
            have B2 := B1.after hb2
            have d0 := A2.cell 0 rfl
            have d1 := A2.cell 1 rfl
            have d2 := A2.cell 2 rfl
            have d3 := A2.cell 3 rfl
            have d4 := A2.cell 4 rfl
            have d5 := A2.cell 5 rfl
            have d6 := A2.cell 6 rfl
            have e0 := B2.cell 0 rfl
            go_wp2_with fail
            refine (empty_any _ _ _ _ _ _ _ _ _ _ _ _ _ _ ((hr1.after hb1).after hb2) Nrl ((hr2.after hb1).after hb2) Nrh).mono ?_
            rintro e w3 ⟨rfl, hb3⟩
            rw [hE]
            have hW3 := hW2.trans (hb3.mono hW2.size)
            have A3 := A2.after hb3
            have B3 := B2.after hb3
            have g0 := A3.cell 0 rfl
            have g1 := A3.cell 1 rfl
            have g2 := A3.cell 2 rfl
            have g3 := A3.cell 3 rfl
            have h1 := B3.cell 1 rfl
            have h2 := B3.cell 2 rfl
            have h3 := B3.cell 3 rfl
            go_wp2_with fail
            refine (inside_any _ _ _ _ _ _ _ _ _ _ _ _ _ _ (.inl rfl) _ (((hr1.after hb1).after hb2).after hb3) Nrl (((hs1.after hb1).after hb2).after hb3) Nsl).mono ?_
            rintro e w4 ⟨rfl, hb4⟩
            rw [← HY.out]
            have hW4 := hW3.trans (hb4.mono hW3.size)
          · go_wp2_with fail
            go_ret
            exact ⟨rfl, hW4⟩
          · have A4 := A3.after hb4
            have B4 := B3.after hb4
            have i0 := A4.cell 0 rfl
            have i4 := A4.cell 4 rfl
            have i5 := A4.cell 5 rfl
            have i6 := A4.cell 6 rfl
            have j4 := B4.cell 4 rfl
            have j5 := B4.cell 5 rfl
            have j6 := B4.cell 6 rfl
            go_wp2_with fail
            refine (inside_any _ _ _ _ _ _ _ _ _ _ _ _ _ _ (.inr rfl) _ ((((hr2.after hb1).after hb2).after hb3).after hb4) Nrh ((((hs2.after hb1).after hb2).after hb3).after hb4) Nsh).mono ?_
            rintro e w5 ⟨rfl, hb5⟩
            rw [← HX.out]
            have hW5 := hW4.trans (hb5.mono hW4.size)
            go_wp2_with fail
            go_ret
            exact ⟨rfl, hW5⟩
        · have q : withinB ⟨r, ⟨rli, rlo, rll⟩, ⟨rhi, rho, rhl⟩⟩ ⟨r, ⟨sli, slo, sll⟩, ⟨shi, sho, shl⟩⟩ = true := by rw [q0, hM, hM2, hE]; simp
          rw [q]
          go_enter Tryd.func20, Tryd.ntmps20
          go_wp2_with fail
          refine (may_any _ _ _ _ _ _ _ _ _ _ _ _ _ _ hr1 Nrl hr2 Nrh).mono ?_
          rintro e w1 ⟨rfl, hb1⟩
          rw [hM]
          have hW := hb0.trans (hb1.mono hb0.size)
          have A1 := A0.after hb1
          have B1 := B0.after hb1
          have c0 := B1.cell 0 rfl
          have c1 := B1.cell 1 rfl
          have c2 := B1.cell 2 rfl
          have c3 := B1.cell 3 rfl
          have c4 := B1.cell 4 rfl
          have c5 := B1.cell 5 rfl
          have c6 := B1.cell 6 rfl
          go_wp2_with fail
          refine (may_any _ _ _ _ _ _ _ _ _ _ _ _ _ _ (hs1.after hb1) Nsl (hs2.after hb1) Nsh).mono ?_
          rintro e w2 ⟨rfl, hb2⟩
          rw [hM2]
          have hW2 := hW.trans (hb2.mono hW.size)
          have A2 := A1.after hb2
          have B2 := B1.after hb2
          have d0 := A2.cell 0 rfl
          have d1 := A2.cell 1 rfl
          have d2 := A2.cell 2 rfl
          have d3 := A2.cell 3 rfl
          have d4 := A2.cell 4 rfl
          have d5 := A2.cell 5 rfl
          have d6 := A2.cell 6 rfl
          have e0 := B2.cell 0 rfl
          go_wp2_with fail
          refine (empty_any _ _ _ _ _ _ _ _ _ _ _ _ _ _ ((hr1.after hb1).after hb2) Nrl ((hr2.after hb1).after hb2) Nrh).mono ?_
          rintro e w3 ⟨rfl, hb3⟩
          rw [hE]
          have hW3 := hW2.trans (hb3.mono hW2.size)
          go_wp2_with fail
          go_ret
          exact ⟨rfl, hW3⟩
      · have q : withinB ⟨r, ⟨rli, rlo, rll⟩, ⟨rhi, rho, rhl⟩⟩ ⟨s, ⟨sli, slo, sll⟩, ⟨shi, sho, shl⟩⟩ = false := by rw [q0, decide_eq_false ho]; simp
        rw [q]
        have hne : ((r : Int) != (s : Int)) = true := by rw [bne_iff_ne]; omega
        clear ho q q0
        go_enter Tryd.func20, Tryd.ntmps20
        go_wp2_with fail
        refine (may_any _ _ _ _ _ _ _ _ _ _ _ _ _ _ hr1 Nrl hr2 Nrh).mono ?_
        rintro e w1 ⟨rfl, hb1⟩
        rw [hM]
        have hW := hb0.trans (hb1.mono hb0.size)
        have A1 := A0.after hb1
        have B1 := B0.after hb1
        have c0 := B1.cell 0 rfl
        have c1 := B1.cell 1 rfl
        have c2 := B1.cell 2 rfl
        have c3 := B1.cell 3 rfl
        have c4 := B1.cell 4 rfl
        have c5 := B1.cell 5 rfl
        have c6 := B1.cell 6 rfl
        go_wp2_with fail
        refine (may_any _ _ _ _ _ _ _ _ _ _ _ _ _ _ (hs1.after hb1) Nsl (hs2.after hb1) Nsh).mono ?_
        rintro e w2 ⟨rfl, hb2⟩
        rw [hM2]
        have hW2 := hW.trans (hb2.mono hW.size)
        have A2 := A1.after hb2
        have B2 := B1.after hb2
        have d0 := A2.cell 0 rfl
        have e0 := B2.cell 0 rfl
        go_wp2_with fail
        go_ret
        exact ⟨rfl, hW2⟩

end Go.Proofs.YtoadpeigomkgiaaDoor

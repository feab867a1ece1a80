/- end, May, within, In of the program: what they compute. -/
import Derived.Test.YtoadpeigomkgiaaDoorOrd5
import Derived.Test.YtoadpeigomkgiaaDoorCell
namespace Go.Proofs.YtoadpeigomkgiaaDoor
open Go.RowKit

set_option maxHeartbeats 8000000 in
set_option maxRecDepth 100000 in
theorem end_any (o : Nat) (xi xo : Bool) (xa : Option Addr) (xn xc : Nat) (xl : List UInt8) (w : World) (Sx : Sl w xa xn xc xl) (Nx : xn ≤ 200) :
    Calls Tryd.prog 31 #[.int .u8 o, .agg #[.bool xi, .bool xo, .slice xa xn xc]] w fun e w' => e = .returned (.bool (endB o ⟨xi, xo, xl⟩)) ∧ Below w.heap.size w w' := by
  have hb0 : Below w.heap.size w (w.alloc (.cells #[.bool xi, .bool xo, .slice xa xn xc] 29 (0, 0))) := (Below.refl _ _).alloc (Nat.le_refl _) _
  have hs0 := Sx.after hb0
  cases xi
  · cases xo
    · by_cases h0 : xn = 0
      · subst h0
        have hl := Sx.1
        have q : endB o ⟨false, false, xl⟩ = true := by unfold endB; simp; exact List.eq_nil_of_length_eq_zero hl.symm
        rw [q]
        clear hl q
        go_enter Tryd.func31, Tryd.ntmps31
        go_wp2_with fail
        go_ret
        exact ⟨rfl, hb0⟩
      · have hl := Sx.1
        have q : endB o ⟨false, false, xl⟩ = false := by
          unfold endB; simp; intro h; subst h; exact h0 (by simpa using hl)
        rw [q]
        have q2 : ((xn : Int) == 0) = false := by rw [beq_eq_false_iff_ne]; omega
        clear hl q h0
        go_enter Tryd.func31, Tryd.ntmps31
        go_wp2_with fail
        go_ret
        exact ⟨rfl, hb0⟩
    · have q : endB o ⟨false, true, xl⟩ = false := rfl
      rw [q]
      go_enter Tryd.func31, Tryd.ntmps31
      go_wp2_with fail
      go_ret
      exact ⟨rfl, hb0⟩
  · have q : endB o ⟨true, xo, xl⟩ = isV o xl := rfl
    rw [q]
    go_enter Tryd.func31, Tryd.ntmps31
    go_wp2_with fail
    refine (is_any _ _ _ _ _ _ hs0 Nx).mono ?_
    rintro e w1 ⟨rfl, hb1⟩
    have hW := hb0.trans (hb1.mono hb0.size)
    go_wp2_with fail
    go_ret
    exact ⟨rfl, hW⟩

theorem ofU_any (o : Nat) (w : World) : Calls Tryd.prog 24 #[.int .u8 o] w fun e w' => ∃ v, e = .returned v ∧ (isO o = true → ∃ fn fs cs, v = .func fn fs cs) ∧ (isO o = false → v = .nilFunc) ∧ Below w.heap.size w w' := by
  cases ho : isO o
  · refine (ofN_any o w ho).mono ?_
    rintro e w1 ⟨rfl, rfl⟩
    exact ⟨_, rfl, (fun h => by cases h), fun _ => rfl, Below.refl _ _⟩
  · have h' : o = 1 ∨ o = 2 ∨ o = 3 ∨ o = 4 ∨ o = 5 := by unfold isO at ho; simp at ho; omega
    rcases h' with rfl | rfl | rfl | rfl | rfl
    · refine (of1_any w).mono ?_
      rintro e w1 ⟨rfl, rfl⟩
      exact ⟨_, rfl, (fun _ => ⟨_, _, _, rfl⟩), (fun h => by cases h), Below.refl _ _⟩
    · refine (of2_any w).mono ?_
      rintro e w1 ⟨g, rfl, _, hb⟩
      exact ⟨_, rfl, (fun _ => ⟨_, _, _, rfl⟩), (fun h => by cases h), hb⟩
    · refine (of3_any w).mono ?_
      rintro e w1 ⟨g, rfl, _, hb⟩
      exact ⟨_, rfl, (fun _ => ⟨_, _, _, rfl⟩), (fun h => by cases h), hb⟩
    · refine (of4_any w).mono ?_
      rintro e w1 ⟨rfl, rfl⟩
      exact ⟨_, rfl, (fun _ => ⟨_, _, _, rfl⟩), (fun h => by cases h), Below.refl _ _⟩
    · refine (of5_any w).mono ?_
      rintro e w1 ⟨g, rfl, _, hb⟩
      exact ⟨_, rfl, (fun _ => ⟨_, _, _, rfl⟩), (fun h => by cases h), hb⟩

set_option maxHeartbeats 8000000 in
set_option maxRecDepth 100000 in
theorem may_any (r : Nat) (rli rlo : Bool) (rla : Option Addr) (rln rlc : Nat) (rll : List UInt8) (rhi rho : Bool) (rha : Option Addr) (rhn rhc : Nat) (rhl : List UInt8) (w : World) (Srl : Sl w rla rln rlc rll) (Nrl : rln ≤ 200) (Srh : Sl w rha rhn rhc rhl) (Nrh : rhn ≤ 200) :
    Calls Tryd.prog 14 #[.agg #[.int .u8 r, .bool rli, .bool rlo, .slice rla rln rlc, .bool rhi, .bool rho, .slice rha rhn rhc]] w fun e w' => e = .returned (.bool (mayB ⟨r, ⟨rli, rlo, rll⟩, ⟨rhi, rho, rhl⟩⟩)) ∧ Below w.heap.size w w' := by
  have hb0 : Below w.heap.size w (w.alloc (.cells #[.int .u8 r, .bool rli, .bool rlo, .slice rla rln rlc, .bool rhi, .bool rho, .slice rha rhn rhc] 31 (0, 0))) := (Below.refl _ _).alloc (Nat.le_refl _) _
  have hs1 := Srl.after hb0
  have hs2 := Srh.after hb0
  have hnn : ∀ fn fs cs W, (binOp .neq 39 (.func fn fs cs) .nilFunc).run Tryd.prog W = .ok (.bool true) W := fun _ _ _ _ => rfl
  have hnz : ∀ W, (binOp .neq 39 .nilFunc .nilFunc).run Tryd.prog W = .ok (.bool false) W := fun _ => rfl
  have B0 : Box (w.alloc (.cells #[.int .u8 r, .bool rli, .bool rlo, .slice rla rln rlc, .bool rhi, .bool rho, .slice rha rhn rhc] 31 (0, 0))) w.heap.size 31 #[.int .u8 r, .bool rli, .bool rlo, .slice rla rln rlc, .bool rhi, .bool rho, .slice rha rhn rhc] := Box.new _ _ _
  cases ho : isO r
  · have q : mayB ⟨r, ⟨rli, rlo, rll⟩, ⟨rhi, rho, rhl⟩⟩ = false := by unfold mayB; simp [ho]
    rw [q]
    go_enter Tryd.func14, Tryd.ntmps14
    go_wp2_with fail
    refine (ofU_any _ _).mono ?_
    rintro e w1 ⟨v, rfl, _, hv, hb1⟩
    obtain rfl := hv ho
    have hW := hb0.trans (hb1.mono hb0.size)
    go_wp2_with fail
    go_ret
    exact ⟨rfl, hW⟩
  · cases he : endB r ⟨rli, rlo, rll⟩
    · have q : mayB ⟨r, ⟨rli, rlo, rll⟩, ⟨rhi, rho, rhl⟩⟩ = false := by unfold mayB; simp [ho, he]
      rw [q]
      go_enter Tryd.func14, Tryd.ntmps14
      go_wp2_with fail
      refine (ofU_any _ _).mono ?_
      rintro e w1 ⟨v, rfl, hv, _, hb1⟩
      obtain ⟨fn, fs, cs, rfl⟩ := hv ho
      have hW := hb0.trans (hb1.mono hb0.size)
      have B1 := B0.after hb1
      obtain ⟨C1, hC⟩ : ∃ C, C = w1 := ⟨_, rfl⟩
      have c0 := B1.cell 0 rfl
      have c1 := B1.cell 1 rfl
      have c2 := B1.cell 2 rfl
      have c3 := B1.cell 3 rfl
      go_wp2_with fail
      refine (end_any _ _ _ _ _ _ _ _ (hs1.after hb1) Nrl).mono ?_
      rintro e w2 ⟨rfl, hb2⟩
      rw [he]
      have hW2 := hW.trans (hb2.mono hW.size)
      go_wp2_with fail
      go_ret
      exact ⟨rfl, hW2⟩
    · have q : mayB ⟨r, ⟨rli, rlo, rll⟩, ⟨rhi, rho, rhl⟩⟩ = endB r ⟨rhi, rho, rhl⟩ := by unfold mayB; simp [ho, he]
      rw [q]
      go_enter Tryd.func14, Tryd.ntmps14
      go_wp2_with fail
      refine (ofU_any _ _).mono ?_
      rintro e w1 ⟨v, rfl, hv, _, hb1⟩
      obtain ⟨fn, fs, cs, rfl⟩ := hv ho
      have hW := hb0.trans (hb1.mono hb0.size)
      have B1 := B0.after hb1
      have c0 := B1.cell 0 rfl
      have c1 := B1.cell 1 rfl
      have c2 := B1.cell 2 rfl
      have c3 := B1.cell 3 rfl
      go_wp2_with fail
      refine (end_any _ _ _ _ _ _ _ _ (hs1.after hb1) Nrl).mono ?_
      rintro e w2 ⟨rfl, hb2⟩
      rw [he]
      have hW2 := hW.trans (hb2.mono hW.size)
      have B2 := B1.after hb2
      have d0 := B2.cell 0 rfl
      have d4 := B2.cell 4 rfl
      have d5 := B2.cell 5 rfl
      have d6 := B2.cell 6 rfl
      go_wp2_with fail
      refine (end_any _ _ _ _ _ _ _ _ ((hs2.after hb1).after hb2) Nrh).mono ?_
      rintro e w3 ⟨rfl, hb3⟩
      have hW3 := hW2.trans (hb3.mono hW2.size)
      go_wp2_with fail
      go_ret
      exact ⟨rfl, hW3⟩

set_option maxHeartbeats 8000000 in
set_option maxRecDepth 100000 in
theorem wi_any (o : Nat) (xi xo : Bool) (xa : Option Addr) (xn xc : Nat) (xl : List UInt8) (ba : Option Addr) (bn bc : Nat) (bl : List UInt8) (t : Int) (ht : t = 1 ∨ t = -1) (w : World) (Sx : Sl w xa xn xc xl) (Nx : xn ≤ 200) (Sb : Sl w ba bn bc bl) (Nb : bn ≤ 200) :
    Calls Tryd.prog 32 #[.int .u8 o, .agg #[.bool xi, .bool xo, .slice xa xn xc], .slice ba bn bc, .int .i64 t] w fun e w' => e = .returned (.bool (wiB o ⟨xi, xo, xl⟩ bl t)) ∧ Below w.heap.size w w' := by
  have hb0 : Below w.heap.size w (w.alloc (.cells #[.bool xi, .bool xo, .slice xa xn xc] 29 (0, 0))) := (Below.refl _ _).alloc (Nat.le_refl _) _
  have hs0 := Sx.after hb0
  have hs1 := Sb.after hb0
  have B0 : Box (w.alloc (.cells #[.bool xi, .bool xo, .slice xa xn xc] 29 (0, 0))) w.heap.size 29 #[.bool xi, .bool xo, .slice xa xn xc] := Box.new _ _ _
  cases xi
  · have q : wiB o ⟨false, xo, xl⟩ bl t = true := rfl
    rw [q]
    go_enter Tryd.func32, Tryd.ntmps32
    go_wp2_with fail
    go_ret
    exact ⟨rfl, hb0⟩
  · have q : wiB o ⟨true, xo, xl⟩ bl t = (decide (0 < t * cV o bl xl) || (decide (cV o bl xl = 0) && !xo)) := rfl
    rw [q]
    have h3 := cV_three o bl xl
    obtain ⟨C, hC⟩ : ∃ C, C = cV o bl xl := ⟨_, rfl⟩
    rw [← hC] at h3 ⊢
    have HC := Lib.hid hC
    clear hC q
    rcases h3 with rfl | rfl | rfl <;> rcases ht with rfl | rfl <;> cases xo
    all_goals
      go_enter Tryd.func32, Tryd.ntmps32
      go_wp2_with fail
      refine (compare_any _ _ _ _ _ _ _ _ _ _ hs1 hs0 Nb Nx).mono ?_
      rintro e w1 ⟨rfl, hb1⟩
      rw [← HC.out]
      have hW := hb0.trans (hb1.mono hb0.size)
      have B1 := B0.after hb1
      have c1 := B1.cell 1 rfl
      go_wp2_with fail
      go_ret
      exact ⟨rfl, hW⟩

set_option maxHeartbeats 8000000 in
set_option maxRecDepth 100000 in
theorem in_any (r : Nat) (rli rlo : Bool) (rla : Option Addr) (rln rlc : Nat) (rll : List UInt8) (rhi rho : Bool) (rha : Option Addr) (rhn rhc : Nat) (rhl : List UInt8) (ba : Option Addr) (bn bc : Nat) (bl : List UInt8) (w : World) (Srl : Sl w rla rln rlc rll) (Nrl : rln ≤ 200) (Srh : Sl w rha rhn rhc rhl) (Nrh : rhn ≤ 200) (Sb : Sl w ba bn bc bl) (Nb : bn ≤ 200) :
    Calls Tryd.prog 16 #[.agg #[.int .u8 r, .bool rli, .bool rlo, .slice rla rln rlc, .bool rhi, .bool rho, .slice rha rhn rhc], .slice ba bn bc] w fun e w' => e = .returned (.bool (inB ⟨r, ⟨rli, rlo, rll⟩, ⟨rhi, rho, rhl⟩⟩ bl)) ∧ Below w.heap.size w w' := by
  have hb0 : Below w.heap.size w (w.alloc (.cells #[.int .u8 r, .bool rli, .bool rlo, .slice rla rln rlc, .bool rhi, .bool rho, .slice rha rhn rhc] 31 (0, 0))) := (Below.refl _ _).alloc (Nat.le_refl _) _
  have hs1 := Srl.after hb0
  have hs2 := Srh.after hb0
  have hsb := Sb.after hb0
  have B0 : Box (w.alloc (.cells #[.int .u8 r, .bool rli, .bool rlo, .slice rla rln rlc, .bool rhi, .bool rho, .slice rha rhn rhc] 31 (0, 0))) w.heap.size 31 #[.int .u8 r, .bool rli, .bool rlo, .slice rla rln rlc, .bool rhi, .bool rho, .slice rha rhn rhc] := Box.new _ _ _
  have q0 : inB ⟨r, ⟨rli, rlo, rll⟩, ⟨rhi, rho, rhl⟩⟩ bl = (mayB ⟨r, ⟨rli, rlo, rll⟩, ⟨rhi, rho, rhl⟩⟩ && isV r bl && wiB r ⟨rli, rlo, rll⟩ bl 1 && wiB r ⟨rhi, rho, rhl⟩ bl (-1)) := rfl
  cases hM : mayB ⟨r, ⟨rli, rlo, rll⟩, ⟨rhi, rho, rhl⟩⟩
  · have q : inB ⟨r, ⟨rli, rlo, rll⟩, ⟨rhi, rho, rhl⟩⟩ bl = false := by rw [q0, hM]; rfl
    rw [q]
    go_enter Tryd.func16, Tryd.ntmps16
    go_wp2_with fail
    refine (may_any _ _ _ _ _ _ _ _ _ _ _ _ _ _ hs1 Nrl hs2 Nrh).mono ?_
    rintro e w1 ⟨rfl, hb1⟩
    rw [hM]
    have hW := hb0.trans (hb1.mono hb0.size)
    go_wp2_with fail
    go_ret
    exact ⟨rfl, hW⟩
  · cases hV : isV r bl
    · have q : inB ⟨r, ⟨rli, rlo, rll⟩, ⟨rhi, rho, rhl⟩⟩ bl = false := by rw [q0, hM, hV]; rfl
      rw [q]
      go_enter Tryd.func16, Tryd.ntmps16
      go_wp2_with fail
      refine (may_any _ _ _ _ _ _ _ _ _ _ _ _ _ _ hs1 Nrl hs2 Nrh).mono ?_
      rintro e w1 ⟨rfl, hb1⟩
      rw [hM]
      have hW := hb0.trans (hb1.mono hb0.size)
      have B1 := B0.after hb1
      have c0 := B1.cell 0 rfl
      go_wp2_with fail
      refine (is_any _ _ _ _ _ _ (hsb.after hb1) Nb).mono ?_
      rintro e w2 ⟨rfl, hb2⟩
      rw [hV]
      have hW2 := hW.trans (hb2.mono hW.size)
      go_wp2_with fail
      go_ret
      exact ⟨rfl, hW2⟩
    · have h3 : inB ⟨r, ⟨rli, rlo, rll⟩, ⟨rhi, rho, rhl⟩⟩ bl = (wiB r ⟨rli, rlo, rll⟩ bl 1 && wiB r ⟨rhi, rho, rhl⟩ bl (-1)) := by rw [q0, hM, hV]; rfl
      rw [h3]
      obtain ⟨X, hX⟩ : ∃ X, X = wiB r ⟨rhi, rho, rhl⟩ bl (-1) := ⟨_, rfl⟩
      obtain ⟨Y, hY⟩ : ∃ Y, Y = wiB r ⟨rli, rlo, rll⟩ bl 1 := ⟨_, rfl⟩
      rw [← hX, ← hY]
      have HX := Lib.hid hX
      have HY := Lib.hid hY
      clear q0 hX hY h3
      cases Y
      all_goals
        go_enter Tryd.func16, Tryd.ntmps16
        go_wp2_with fail
        refine (may_any _ _ _ _ _ _ _ _ _ _ _ _ _ _ hs1 Nrl hs2 Nrh).mono ?_
        rintro e w1 ⟨rfl, hb1⟩
        rw [hM]
        have hW := hb0.trans (hb1.mono hb0.size)
        have B1 := B0.after hb1
        have c0 := B1.cell 0 rfl
        go_wp2_with fail
        refine (is_any _ _ _ _ _ _ (hsb.after hb1) Nb).mono ?_
        rintro e w2 ⟨rfl, hb2⟩
        rw [hV]
        have hW2 := hW.trans (hb2.mono hW.size)
        have B2 := B1.after hb2
        have d0 := B2.cell 0 rfl
        have d1 := B2.cell 1 rfl
        have d2 := B2.cell 2 rfl
        have d3 := B2.cell 3 rfl
        go_wp2_with fail
        refine (wi_any _ _ _ _ _ _ _ _ _ _ _ _ (.inl rfl) _ ((hs1.after hb1).after hb2) Nrl ((hsb.after hb1).after hb2) Nb).mono ?_
        rintro e w3 ⟨rfl, hb3⟩
        rw [← HY.out]
        have hW3 := hW2.trans (hb3.mono hW2.size)
      · go_wp2_with fail
        go_ret
        exact ⟨rfl, hW3⟩
      · have B3 := B2.after hb3
        have e0 := B3.cell 0 rfl
        have e4 := B3.cell 4 rfl
        have e5 := B3.cell 5 rfl
        have e6 := B3.cell 6 rfl
        go_wp2_with fail
        refine (wi_any _ _ _ _ _ _ _ _ _ _ _ _ (.inr rfl) _ (((hs2.after hb1).after hb2).after hb3) Nrh (((hsb.after hb1).after hb2).after hb3) Nb).mono ?_
        rintro e w4 ⟨rfl, hb4⟩
        rw [← HX.out]
        have hW4 := hW3.trans (hb4.mono hW3.size)
        go_wp2_with fail
        go_ret
        exact ⟨rfl, hW4⟩

end Go.Proofs.YtoadpeigomkgiaaDoor

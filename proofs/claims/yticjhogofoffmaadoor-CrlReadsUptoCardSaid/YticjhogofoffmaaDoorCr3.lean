/- The window without ends, put; no sums, put. -/
import Derived.Test.YticjhogofoffmaaDoorCr2
namespace Go.Proofs.YticjhogofoffmaaDoor
open Go.RowKit
set_option linter.unusedSimpArgs false
set_option linter.unusedVariables false

/-- a value and what is told beside it -/
def PutQ (s : Sx) (x : Value) (w : World) (e : Ending) (w' : World) : Prop :=
  ∃ v : SV, e = .returned (.tuple #[.agg #[.bool v.l, .bool v.h, .slice v.a1 v.n1 v.c1, .slice v.a2 v.n2 v.c2, .slice v.a3 v.n3 v.c3], x]) ∧ RdI (fun b => w.heap.size ≤ b) w' v s ∧ Below w.heap.size w w'

set_option maxHeartbeats 4000000 in
set_option maxRecDepth 100000 in
theorem winPut0_any (w : World) : Calls Tryd.prog 38 #[.agg #[.bool false, .int .i64 0, .bool false, .int .i64 0]] w (PutQ (.mk true false [] [] [(.mk false false [] [118, 97, 108, 105, 100] [])]) (.int .i64 0) w) := by
  have B0 : Below w.heap.size w ((w.alloc (.cells #[.bool false, .int .i64 0, .bool false, .int .i64 0] 27)).alloc (.cells #[.bool false, .bool false, .slice none 0 0, .slice none 0 0, .slice none 0 0] 37)) := ((Below.refl _ _).alloc (Nat.le_refl _) _).alloc (by simp) _
  have K0 : Box ((w.alloc (.cells #[.bool false, .int .i64 0, .bool false, .int .i64 0] 27)).alloc (.cells #[.bool false, .bool false, .slice none 0 0, .slice none 0 0, .slice none 0 0] 37)) w.heap.size 27 #[.bool false, .int .i64 0, .bool false, .int .i64 0] := (Box.new _ _ _).alloc _
  have X0 : Box ((w.alloc (.cells #[.bool false, .int .i64 0, .bool false, .int .i64 0] 27)).alloc (.cells #[.bool false, .bool false, .slice none 0 0, .slice none 0 0, .slice none 0 0] 37)) (w.heap.size + 1) 37 #[.bool false, .bool false, .slice none 0 0, .slice none 0 0, .slice none 0 0] := by
    have := Box.new (w.alloc (.cells #[.bool false, .int .i64 0, .bool false, .int .i64 0] 27)) 37 #[.bool false, .bool false, .slice none 0 0, .slice none 0 0, .slice none 0 0]
    simpa using this
  have CM := Lib.hid (fun w' => winMay_any false 0 false 0 w')
  rw [show winMay false 0 false 0 = true from rfl] at CM
  go_enter Tryd.func38, Tryd.ntmps38
  go_upto_region 1 with fail
  change Code.wp _ _ _ _ ((w.alloc (.cells #[.bool false, .int .i64 0, .bool false, .int .i64 0] 27)).alloc (.cells #[.bool false, .bool false, .slice none 0 0, .slice none 0 0, .slice none 0 0] 37))
  replace K0 := Lib.hid K0
  replace X0 := Lib.hid X0
  generalize ((w.alloc (.cells #[.bool false, .int .i64 0, .bool false, .int .i64 0] 27)).alloc (.cells #[.bool false, .bool false, .slice none 0 0, .slice none 0 0, .slice none 0 0] 37)) = u0 at *
  go_wp2_with (refine wpList_load_box rfl 27 _ rfl K0.out (by rfl) Tryd.underlying27 rfl (by kernel_rfl) ?_)
  refine (CM.out _).mono ?_
  rintro e w1 ⟨rfl, hb1⟩
  have B1 := B0.trans (hb1.mono B0.size)
  have K1 := Lib.hid (K0.out.after hb1)
  have X1 := Lib.hid (X0.out.after hb1)
  clear K0 X0 hb1 B0 CM
  go_wp2_with fail
  refine (atomI_any (fun b => w.heap.size ≤ b ∧ b ≠ w.heap.size + 1) ⟨#[118, 97, 108, 105, 100]⟩ (by decide) w1 (fun b hb => by have := X1.out.lt; omega)).mono ?_
  rintro e w2 ⟨⟨vl, vh, a1, n1, c1, a2, n2, c2, a3, n3, c3⟩, rfl, r2, hb2⟩
  unfold SV.val
  have B2 := B1.trans (hb2.mono B1.size)
  have X2 := Lib.hid (X1.out.after hb2)
  have R2 := Lib.hid r2
  have a2' : Below w2.heap.size w2 (w2.alloc (.cells #[.bool vl, .bool vh, .slice a1 n1 c1, .slice a2 n2 c2, .slice a3 n3 c3] 37)) := (Below.refl _ _).alloc (Nat.le_refl _) _
  have row2 := Lib.hid (row_one w2 ⟨vl, vh, a1, n1, c1, a2, n2, c2, a3, n3, c3⟩ 37)
  have B3 := B2.trans (a2'.mono B2.size)
  have X3 := Lib.hid (X2.out.after a2')
  have R3 := Lib.hid (R2.out.after a2')
  have K3 := Lib.hid ((K1.out.after hb2).after a2')
  clear K1 X1 X2 R2 r2 hb2 a2' B1 B2
  go_upto_region 4 with fail
  generalize w2.alloc (.cells #[.bool vl, .bool vh, .slice a1 n1 c1, .slice a2 n2 c2, .slice a3 n3 c3] 37) = w3 at *
  have k0 := K3.out.cell 0 rfl
  have k2 := K3.out.cell 2 rfl
  clear K3
  go_wp2_with fail
  refine (listI_any (fun b => w.heap.size ≤ b ∧ b ≠ w.heap.size + 1) _ 1 1 _ [(.mk false false [] [118, 97, 108, 105, 100] [])] w3 row2.out (by omega) rfl (fun i hi => match i, hi with | 0, _ => R3.out) (fun b hb => by have := X3.out.lt; omega)).mono ?_
  rintro e w4 ⟨⟨ul, uh, b1, m1, d1, b2, m2, d2, b3, m3, d3⟩, rfl, r4, hb4⟩
  unfold SV.val
  have B4 := B3.trans (hb4.mono B3.size)
  have X4 := Lib.hid (X3.out.after hb4)
  have R4 := Lib.hid r4
  clear k0 k2 row2 R3 X3 B3 hb4 r4
  go_wp2_with (refine wpList_store_box (cells := #[.bool ul, .bool uh, .slice b1 m1 d1, .slice b2 m2 d2, .slice b3 m3 d3]) rfl 37 _ _ rfl X4.out (by rfl) (by rfl) rfl (by kernel_rfl) (by simp [Value.oneCell']) ?_; intro u9 X9 st9)
  have B9 := st9.below w.heap.size w (by omega) B4
  have R9 := (R4.out.keep (w' := u9) (fun b hb => st9.other b hb.2)).mono (ok' := fun b => w.heap.size ≤ b) (fun _ h => h.1)
  exact bodyPost_ret (v := .tuple #[.agg #[.bool ul, .bool uh, .slice b1 m1 d1, .slice b2 m2 d2, .slice b3 m3 d3], .int .i64 0]) (box_result2 (p := 2) (q := 3) rfl _ _ (by rfl) X9 Tryd.underlying37 rfl (by kernel_rfl)) rfl ⟨⟨ul, uh, b1, m1, d1, b2, m2, d2, b3, m3, d3⟩, rfl, R9, B9⟩

set_option maxHeartbeats 4000000 in
set_option maxRecDepth 100000 in
theorem sums0_any (w : World) : Calls Tryd.prog 37 #[.slice none 0 0] w (PutQ (.mk true false [] [] [(.mk false false [] [99, 97, 110, 99, 101, 108, 101, 100] [])]) (.bool true) w) := by
  have B1 : Below w.heap.size w (w.alloc (.cells #[.bool false, .bool false, .slice none 0 0, .slice none 0 0, .slice none 0 0] 37)) := (Below.refl _ _).alloc (Nat.le_refl _) _
  have X1 : Box (w.alloc (.cells #[.bool false, .bool false, .slice none 0 0, .slice none 0 0, .slice none 0 0] 37)) w.heap.size 37 #[.bool false, .bool false, .slice none 0 0, .slice none 0 0, .slice none 0 0] := Box.new _ _ _
  go_enter Tryd.func37, Tryd.ntmps37
  go_upto_region 1 with fail
  change Code.wp _ _ _ _ (w.alloc (.cells #[.bool false, .bool false, .slice none 0 0, .slice none 0 0, .slice none 0 0] 37))
  replace X1 := Lib.hid X1
  generalize (w.alloc (.cells #[.bool false, .bool false, .slice none 0 0, .slice none 0 0, .slice none 0 0] 37)) = w1 at *
  go_wp2_with fail
  refine (atomI_any (fun b => w.heap.size ≤ b ∧ b ≠ w.heap.size) ⟨#[99, 97, 110, 99, 101, 108, 101, 100]⟩ (by decide) w1 (fun b hb => by have := X1.out.lt; omega)).mono ?_
  rintro e w2 ⟨⟨vl, vh, a1, n1, c1, a2, n2, c2, a3, n3, c3⟩, rfl, r2, hb2⟩
  unfold SV.val
  have B2 := B1.trans (hb2.mono B1.size)
  have X2 := Lib.hid (X1.out.after hb2)
  have R2 := Lib.hid r2
  have a2' : Below w2.heap.size w2 (w2.alloc (.cells #[.bool vl, .bool vh, .slice a1 n1 c1, .slice a2 n2 c2, .slice a3 n3 c3] 37)) := (Below.refl _ _).alloc (Nat.le_refl _) _
  have row2 := Lib.hid (row_one w2 ⟨vl, vh, a1, n1, c1, a2, n2, c2, a3, n3, c3⟩ 37)
  have B3 := B2.trans (a2'.mono B2.size)
  have X3 := Lib.hid (X2.out.after a2')
  have R3 := Lib.hid (R2.out.after a2')
  clear X1 X2 R2 r2 hb2 a2' B1 B2
  go_wp2_with fail
  generalize w2.alloc (.cells #[.bool vl, .bool vh, .slice a1 n1 c1, .slice a2 n2 c2, .slice a3 n3 c3] 37) = w3 at *
  refine (listI_any (fun b => w.heap.size ≤ b ∧ b ≠ w.heap.size) _ 1 1 _ [(.mk false false [] [99, 97, 110, 99, 101, 108, 101, 100] [])] w3 row2.out (by omega) rfl (fun i hi => match i, hi with | 0, _ => R3.out) (fun b hb => by have := X3.out.lt; omega)).mono ?_
  rintro e w4 ⟨⟨ul, uh, b1, m1, d1, b2, m2, d2, b3, m3, d3⟩, rfl, r4, hb4⟩
  unfold SV.val
  have B4 := B3.trans (hb4.mono B3.size)
  have X4 := Lib.hid (X3.out.after hb4)
  have R4 := Lib.hid r4
  clear row2 R3 X3 B3 hb4 r4
  go_upto_region 4 with (refine wpList_store_box (cells := #[.bool ul, .bool uh, .slice b1 m1 d1, .slice b2 m2 d2, .slice b3 m3 d3]) rfl 37 _ _ rfl (Box.new _ _ _) (by rfl) (by rfl) rfl (by kernel_rfl) (by simp [Value.oneCell']) ?_; intro u9 X9 st9)
  have b49 : Below w4.heap.size w4 u9 := st9.below w4.heap.size w4 (Nat.le_refl _) ((Below.refl _ _).alloc (Nat.le_refl _) _)
  have B5 := B4.trans (b49.mono B4.size)
  have Y5 := Lib.hid X9
  have X5 := Lib.hid (X4.out.after b49)
  have R5 := Lib.hid (R4.out.after b49)
  clear st9 X9 X4 R4 B4 b49
  generalize w4.heap.size = y at *
  go_wp2_with fail
  go_loop [18] (fun t => t = .int .i64 0) (fun _ => 0)
  case atStart => rfl
  case round =>
    obtain rfl := hrel
    go_wp2_with (first | (refine wpList_load_box rfl 37 _ rfl Y5.out (by rfl) Tryd.underlying37 rfl (by kernel_rfl) ?_) | (refine wpList_store_box (cells := #[.bool ul, .bool uh, .slice b1 m1 d1, .slice b2 m2 d2, .slice b3 m3 d3]) rfl 37 _ _ rfl X5.out (by rfl) (by rfl) rfl (by kernel_rfl) (by simp [Value.oneCell']) ?_; intro u8 X8 st8))
    have B9 := st8.below w.heap.size w (Nat.le_refl _) B5
    have R9 := (R5.out.keep (w' := u8) (fun b hb => st8.other b hb.2)).mono (ok' := fun b => w.heap.size ≤ b) (fun _ h => h.1)
    exact bodyPost_ret (v := .tuple #[.agg #[.bool ul, .bool uh, .slice b1 m1 d1, .slice b2 m2 d2, .slice b3 m3 d3], .bool true]) (box_result2 (p := 2) (q := 3) rfl _ _ (by rfl) X8 Tryd.underlying37 rfl (by kernel_rfl)) rfl ⟨⟨ul, uh, b1, m1, d1, b2, m2, d2, b3, m3, d3⟩, rfl, R9, B9⟩

end Go.Proofs.YticjhogofoffmaaDoor

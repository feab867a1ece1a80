import Derived.Test.YtmmkaclmgnpplaaGreatDoorMz22
set_option maxRecDepth 100000
set_option maxHeartbeats 64000000
set_option linter.unusedSimpArgs false
set_option linter.unusedVariables false
namespace Go.Proofs.YtmmkaclmgnpplaaGreatDoor
open Go.RowKit
theorem Box.midR {w : World} {g : Nat} {T : TypeId} {cells : Array Value} (h : Box w g T cells) (o : Nat) (cs : List Value) (hh : (cells.toList.drop o).take cs.length = cs) : w.rangeAt g o cs := fun j v hv => h.cell (o + j) (by
 rw [← hh, List.getElem?_take] at hv
 split at hv
 ·rw [List.getElem?_drop] at hv
  simpa using hv
 ·cases hv)
theorem lL (xi xo : Bool) (xa : Option Addr) (xn xc : Nat) (xl : List UInt8) (yi yo : Bool) (ya : Option Addr) (yn yc : Nat) (yl : List UInt8) (w : World) (hs : Sl w xa xn xc xl) (aO : Sl w ya yn yc yl) :
  Calls Tryz.prog 125 #[.agg #[.bool xi, .bool xo, .slice xa xn xc], .agg #[.bool yi, .bool yo, .slice ya yn yc]] w fun e w' => e = .returned (.bool (sameBd ⟨xi, xo, xl⟩ ⟨yi, yo, yl⟩)) ∧ Below w.heap.size w w' := by
 have HS := I5 hs
 have mJ := I5 aO
 obtain ⟨r, hr⟩ : ∃ r, r = (xl == yl) := ⟨_, rfl⟩
 have HR := I5 (show sameBd ⟨xi, xo, xl⟩ ⟨yi, yo, yl⟩ = (xi == yi && xo == yo && r) by rw [hr]; unfold sameBd; congr 1; by_cases h : xl = yl <;> simp [h])
 generalize sameBd ⟨xi, xo, xl⟩ ⟨yi, yo, yl⟩ = R at *
 have CE := I5 (fun w' (h : Below w.heap.size w w') => j0 xa xn xc xl ya yn yc yl w' (HS.out.after h) (mJ.out.after h))
 rw [← hr] at CE
 clear hr hs aO
 let x0 := ((w.alloc (.cells #[.bool xi, .bool xo, .slice xa xn xc] 25)).alloc (.cells #[.bool yi, .bool yo, .slice ya yn yc] 25))
 have B : Below w.heap.size w x0 := ((Below.refl _ _).alloc (Nat.le_refl _) _).alloc (by simp [x0, x0]) _
 have X : Hid (Box x0 w.heap.size 25 #[.bool xi, .bool xo, .slice xa xn xc]) := I5 ((Box.new _ _ _).alloc _)
 have Y : Hid (Box x0 (w.heap.size + 1) 25 #[.bool yi, .bool yo, .slice ya yn yc]) := I5 (by
  have := Box.new (w.alloc (.cells #[.bool xi, .bool xo, .slice xa xn xc] 25)) 25 #[.bool yi, .bool yo, .slice ya yn yc]
  simpa [x0] using this)
 show Calls _ _ #[.agg #[.bool xi, .bool xo, .slice xa xn xc], .agg #[.bool yi, .bool yo, .slice ya yn yc]] _ _
 go_enter Tryz.func125, Tryz.ntmps125
 go_upto_region 1 with fail
 change Code.wp _ _ _ _ x0
 clear_value x0
 by_cases hq : xi = yi
 case neg =>
  have HF : Hid (R = false) := I5 (by rw [HR.out]; simp [hq])
  go_step
  refine bC 19 x0.heap.size x0 (Below.refl _ _) ?_
  simp only [List.take_succ_cons, List.take_zero, List.drop_succ_cons, List.drop_zero]
  refine aa rfl (.pointer (some ⟨w.heap.size, 0, none⟩)) (fun w' hw => by simp [go_sem]) ?_
  simp only [Act.put, I2, I3, I4]
  refine aa rfl (.bool xi) (fun w' hw => by have := (X.out.after hw).cell 0 rfl; simp [go_sem, this]) ?_
  simp only [Act.put, I2, I3, I4]
  refine aa rfl (.pointer (some ⟨(w.heap.size + 1), 0, none⟩)) (fun w' hw => by simp [go_sem]) ?_
  simp only [Act.put, I2, I3, I4]
  refine aa rfl (.bool yi) (fun w' hw => by have := (Y.out.after hw).cell 0 rfl; simp [go_sem, this]) ?_
  simp only [Act.put, I2, I3, I4]
  refine aa rfl (.bool false) (fun w' hw => by simp [go_sem, hq]) ?_
  simp only [Act.put, I2, I3, I4]
  refine aa rfl (.bool false) (fun w' hw => by simp [go_sem]) ?_
  simp only [Act.put, I2, I3, I4]
  refine aj rfl ?_
  simp only [Act.put, I2, I3, I4]
  refine aj rfl ?_
  simp only [Act.put, I2, I3, I4]
  refine aj rfl ?_
  simp only [Act.put, I2, I3, I4]
  refine aj rfl ?_
  simp only [Act.put, I2, I3, I4]
  refine aj rfl ?_
  simp only [Act.put, I2, I3, I4]
  refine aa rfl (.bool false) (fun w' hw => by simp [go_sem]) ?_
  simp only [Act.put, I2, I3, I4]
  refine aa rfl (.bool false) (fun w' hw => by simp [go_sem]) ?_
  simp only [Act.put, I2, I3, I4]
  refine aj rfl ?_
  simp only [Act.put, I2, I3, I4]
  refine aj rfl ?_
  simp only [Act.put, I2, I3, I4]
  refine aj rfl ?_
  simp only [Act.put, I2, I3, I4]
  refine aj rfl ?_
  simp only [Act.put, I2, I3, I4]
  refine aj rfl ?_
  simp only [Act.put, I2, I3, I4]
  refine aa rfl (.bool false) (fun w' hw => by simp [go_sem]) ?_
  simp only [Act.put, I2, I3, I4]
  intro y1 af
  replace X := I5 (X.out.after af)
  replace Y := I5 (Y.out.after af)
  replace B := B.trans (af.mono B.size)
  clear af
  go_wp2_with fail
  go_ret
  exact ⟨by rw [HF.out]; rfl, B⟩
 subst hq
 by_cases iW : xo = yo
 case neg =>
  have HF : Hid (R = false) := I5 (by rw [HR.out]; simp [iW])
  go_step
  refine bC 19 x0.heap.size x0 (Below.refl _ _) ?_
  simp only [List.take_succ_cons, List.take_zero, List.drop_succ_cons, List.drop_zero]
  refine aa rfl (.pointer (some ⟨w.heap.size, 0, none⟩)) (fun w' hw => by simp [go_sem]) ?_
  simp only [Act.put, I2, I3, I4]
  refine aa rfl (.bool xi) (fun w' hw => by have := (X.out.after hw).cell 0 rfl; simp [go_sem, this]) ?_
  simp only [Act.put, I2, I3, I4]
  refine aa rfl (.pointer (some ⟨(w.heap.size + 1), 0, none⟩)) (fun w' hw => by simp [go_sem]) ?_
  simp only [Act.put, I2, I3, I4]
  refine aa rfl (.bool xi) (fun w' hw => by have := (Y.out.after hw).cell 0 rfl; simp [go_sem, this]) ?_
  simp only [Act.put, I2, I3, I4]
  refine aa rfl (.bool true) (fun w' hw => by simp [go_sem]) ?_
  simp only [Act.put, I2, I3, I4]
  refine aa rfl (.bool true) (fun w' hw => by simp [go_sem]) ?_
  simp only [Act.put, I2, I3, I4]
  refine aa rfl (.pointer (some ⟨w.heap.size, 1, none⟩)) (fun w' hw => by simp [go_sem]) ?_
  simp only [Act.put, I2, I3, I4]
  refine aa rfl (.bool xo) (fun w' hw => by have := (X.out.after hw).cell 1 rfl; simp [go_sem, this]) ?_
  simp only [Act.put, I2, I3, I4]
  refine aa rfl (.pointer (some ⟨(w.heap.size + 1), 1, none⟩)) (fun w' hw => by simp [go_sem]) ?_
  simp only [Act.put, I2, I3, I4]
  refine aa rfl (.bool yo) (fun w' hw => by have := (Y.out.after hw).cell 1 rfl; simp [go_sem, this]) ?_
  simp only [Act.put, I2, I3, I4]
  refine aa rfl (.bool false) (fun w' hw => by simp [go_sem, iW]) ?_
  simp only [Act.put, I2, I3, I4]
  refine aa rfl (.bool false) (fun w' hw => by simp [go_sem]) ?_
  simp only [Act.put, I2, I3, I4]
  refine aa rfl (.bool false) (fun w' hw => by simp [go_sem]) ?_
  simp only [Act.put, I2, I3, I4]
  refine aj rfl ?_
  simp only [Act.put, I2, I3, I4]
  refine aj rfl ?_
  simp only [Act.put, I2, I3, I4]
  refine aj rfl ?_
  simp only [Act.put, I2, I3, I4]
  refine aj rfl ?_
  simp only [Act.put, I2, I3, I4]
  refine aj rfl ?_
  simp only [Act.put, I2, I3, I4]
  refine aa rfl (.bool false) (fun w' hw => by simp [go_sem]) ?_
  simp only [Act.put, I2, I3, I4]
  intro y1 af
  replace X := I5 (X.out.after af)
  replace Y := I5 (Y.out.after af)
  replace B := B.trans (af.mono B.size)
  clear af
  go_wp2_with fail
  go_ret
  exact ⟨by rw [HF.out]; rfl, B⟩
 subst iW
 have HF : Hid (R = r) := I5 (by rw [HR.out]; simp)
 go_step
 refine bC 19 x0.heap.size x0 (Below.refl _ _) ?_
 simp only [List.take_succ_cons, List.take_zero, List.drop_succ_cons, List.drop_zero]
 refine aa rfl (.pointer (some ⟨w.heap.size, 0, none⟩)) (fun w' hw => by simp [go_sem]) ?_
 simp only [Act.put, I2, I3, I4]
 refine aa rfl (.bool xi) (fun w' hw => by have := (X.out.after hw).cell 0 rfl; simp [go_sem, this]) ?_
 simp only [Act.put, I2, I3, I4]
 refine aa rfl (.pointer (some ⟨(w.heap.size + 1), 0, none⟩)) (fun w' hw => by simp [go_sem]) ?_
 simp only [Act.put, I2, I3, I4]
 refine aa rfl (.bool xi) (fun w' hw => by have := (Y.out.after hw).cell 0 rfl; simp [go_sem, this]) ?_
 simp only [Act.put, I2, I3, I4]
 refine aa rfl (.bool true) (fun w' hw => by simp [go_sem]) ?_
 simp only [Act.put, I2, I3, I4]
 refine aa rfl (.bool true) (fun w' hw => by simp [go_sem]) ?_
 simp only [Act.put, I2, I3, I4]
 refine aa rfl (.pointer (some ⟨w.heap.size, 1, none⟩)) (fun w' hw => by simp [go_sem]) ?_
 simp only [Act.put, I2, I3, I4]
 refine aa rfl (.bool xo) (fun w' hw => by have := (X.out.after hw).cell 1 rfl; simp [go_sem, this]) ?_
 simp only [Act.put, I2, I3, I4]
 refine aa rfl (.pointer (some ⟨(w.heap.size + 1), 1, none⟩)) (fun w' hw => by simp [go_sem]) ?_
 simp only [Act.put, I2, I3, I4]
 refine aa rfl (.bool xo) (fun w' hw => by have := (Y.out.after hw).cell 1 rfl; simp [go_sem, this]) ?_
 simp only [Act.put, I2, I3, I4]
 refine aa rfl (.bool true) (fun w' hw => by simp [go_sem]) ?_
 simp only [Act.put, I2, I3, I4]
 refine aa rfl (.bool true) (fun w' hw => by simp [go_sem]) ?_
 simp only [Act.put, I2, I3, I4]
 refine aa rfl (.bool true) (fun w' hw => by simp [go_sem]) ?_
 simp only [Act.put, I2, I3, I4]
 refine aa rfl (.pointer (some ⟨w.heap.size, 2, none⟩)) (fun w' hw => by simp [go_sem]) ?_
 simp only [Act.put, I2, I3, I4]
 refine aa rfl (.slice xa xn xc) (fun w' hw => by have := (X.out.after hw).cell 2 rfl; simp [go_sem, this]) ?_
 simp only [Act.put, I2, I3, I4]
 refine aa rfl (.pointer (some ⟨(w.heap.size + 1), 2, none⟩)) (fun w' hw => by simp [go_sem]) ?_
 simp only [Act.put, I2, I3, I4]
 refine aa rfl (.slice ya yn yc) (fun w' hw => by have := (Y.out.after hw).cell 2 rfl; simp [go_sem, this]) ?_
 simp only [Act.put, I2, I3, I4]
 refine be rfl 78 #[.slice xa xn xc, .slice ya yn yc] (fun w' => by simp [go_sem]) (.bool r) (Nat.le_refl _) (fun w' hw => CE.out w' (B.trans (hw.mono B.size))) ?_
 simp only [Act.put, I2, I3, I4]
 refine aa rfl (.bool r) (fun w' hw => by simp [go_sem]) ?_
 simp only [Act.put, I2, I3, I4]
 intro y1 af
 replace X := I5 (X.out.after af)
 replace Y := I5 (Y.out.after af)
 replace B := B.trans (af.mono B.size)
 clear af
 go_wp2_with fail
 go_ret
 exact ⟨by rw [HF.out]; rfl, B⟩
theorem qT (vo : Nat) (am ak : Bool) (aE : Option Addr) (aB aD : Nat) (iw : List UInt8) (ar aq : Bool) (aI : Option Addr) (aC aH : Nat) (ix : List UInt8) (uo : Nat) (eu et : Bool) (eY : Option Addr) (eW eX : Nat) (Br : List UInt8) (fa eZ : Bool) (fw : Option Addr) (fu fv : Nat) (Bs : List UInt8) (w : World) (an : Sl w aE aB aD iw) (aO : Sl w aI aC aH ix) (Bz : Sl w eY eW eX Br) (Ds : Sl w fw fu fv Bs) :
  Calls Tryz.prog 103 #[.agg #[.int .u8 vo, .bool am, .bool ak, .slice aE aB aD, .bool ar, .bool aq, .slice aI aC aH], .agg #[.int .u8 uo, .bool eu, .bool et, .slice eY eW eX, .bool fa, .bool eZ, .slice fw fu fv]] w fun e w' => e = .returned (.bool (sameR ⟨vo, ⟨am, ak, iw⟩, ⟨ar, aq, ix⟩⟩ ⟨uo, ⟨eu, et, Br⟩, ⟨fa, eZ, Bs⟩⟩)) ∧ Below w.heap.size w w' := by
 have fL := I5 an
 have mJ := I5 aO
 have Ib := I5 Bz
 have Ia := I5 Ds
 obtain ⟨r1, p6⟩ : ∃ r, r = sameBd ⟨am, ak, iw⟩ ⟨eu, et, Br⟩ := ⟨_, rfl⟩
 obtain ⟨r2, oY⟩ : ∃ r, r = sameBd ⟨ar, aq, ix⟩ ⟨fa, eZ, Bs⟩ := ⟨_, rfl⟩
 have HR := I5 (show sameR ⟨vo, ⟨am, ak, iw⟩, ⟨ar, aq, ix⟩⟩ ⟨uo, ⟨eu, et, Br⟩, ⟨fa, eZ, Bs⟩⟩ = (decide (vo = uo) && r1 && r2) by rw [p6, oY]; rfl)
 generalize sameR ⟨vo, ⟨am, ak, iw⟩, ⟨ar, aq, ix⟩⟩ ⟨uo, ⟨eu, et, Br⟩, ⟨fa, eZ, Bs⟩⟩ = R at *
 have C1 := I5 (fun w' (h : Below w.heap.size w w') => lL am ak aE aB aD iw eu et eY eW eX Br w' (fL.out.after h) (Ib.out.after h))
 have C2 := I5 (fun w' (h : Below w.heap.size w w') => lL ar aq aI aC aH ix fa eZ fw fu fv Bs w' (mJ.out.after h) (Ia.out.after h))
 rw [← p6] at C1
 rw [← oY] at C2
 clear p6 oY an aO Bz Ds
 let x0 := ((w.alloc (.cells #[.int .u8 vo, .bool am, .bool ak, .slice aE aB aD, .bool ar, .bool aq, .slice aI aC aH] 27)).alloc (.cells #[.int .u8 uo, .bool eu, .bool et, .slice eY eW eX, .bool fa, .bool eZ, .slice fw fu fv] 27))
 have B : Below w.heap.size w x0 := ((Below.refl _ _).alloc (Nat.le_refl _) _).alloc (by simp [x0, x0]) _
 have X : Hid (Box x0 w.heap.size 27 #[.int .u8 vo, .bool am, .bool ak, .slice aE aB aD, .bool ar, .bool aq, .slice aI aC aH]) := I5 ((Box.new _ _ _).alloc _)
 have Y : Hid (Box x0 (w.heap.size + 1) 27 #[.int .u8 uo, .bool eu, .bool et, .slice eY eW eX, .bool fa, .bool eZ, .slice fw fu fv]) := I5 (by
  have := Box.new (w.alloc (.cells #[.int .u8 vo, .bool am, .bool ak, .slice aE aB aD, .bool ar, .bool aq, .slice aI aC aH] 27)) 27 #[.int .u8 uo, .bool eu, .bool et, .slice eY eW eX, .bool fa, .bool eZ, .slice fw fu fv]
  simpa [x0] using this)
 show Calls _ _ #[.agg #[.int .u8 vo, .bool am, .bool ak, .slice aE aB aD, .bool ar, .bool aq, .slice aI aC aH], .agg #[.int .u8 uo, .bool eu, .bool et, .slice eY eW eX, .bool fa, .bool eZ, .slice fw fu fv]] _ _
 go_enter Tryz.func103, Tryz.ntmps103
 go_upto_region 1 with fail
 change Code.wp _ _ _ _ x0
 clear_value x0
 by_cases hq : vo = uo
 case neg =>
  have HF : Hid (R = false) := I5 (by rw [HR.out]; simp [hq])
  go_step
  refine bC 19 x0.heap.size x0 (Below.refl _ _) ?_
  simp only [List.take_succ_cons, List.take_zero, List.drop_succ_cons, List.drop_zero]
  refine aa rfl (.pointer (some ⟨w.heap.size, 0, none⟩)) (fun w' hw => by simp [go_sem]) ?_
  simp only [Act.put, I2, I3, I4]
  refine aa rfl (.int .u8 vo) (fun w' hw => by have := (X.out.after hw).cell 0 rfl; simp [go_sem, this]) ?_
  simp only [Act.put, I2, I3, I4]
  refine aa rfl (.pointer (some ⟨(w.heap.size + 1), 0, none⟩)) (fun w' hw => by simp [go_sem]) ?_
  simp only [Act.put, I2, I3, I4]
  refine aa rfl (.int .u8 uo) (fun w' hw => by have := (Y.out.after hw).cell 0 rfl; simp [go_sem, this]) ?_
  simp only [Act.put, I2, I3, I4]
  refine aa rfl (.bool false) (fun w' hw => by simp [go_sem, hq]; omega) ?_
  simp only [Act.put, I2, I3, I4]
  refine aa rfl (.bool false) (fun w' hw => by simp [go_sem]) ?_
  simp only [Act.put, I2, I3, I4]
  refine aj rfl ?_
  simp only [Act.put, I2, I3, I4]
  refine aj rfl ?_
  simp only [Act.put, I2, I3, I4]
  refine aj rfl ?_
  simp only [Act.put, I2, I3, I4]
  refine aj rfl ?_
  simp only [Act.put, I2, I3, I4]
  refine aj rfl ?_
  simp only [Act.put, I2, I3, I4]
  refine aa rfl (.bool false) (fun w' hw => by simp [go_sem]) ?_
  simp only [Act.put, I2, I3, I4]
  refine aa rfl (.bool false) (fun w' hw => by simp [go_sem]) ?_
  simp only [Act.put, I2, I3, I4]
  refine aj rfl ?_
  simp only [Act.put, I2, I3, I4]
  refine aj rfl ?_
  simp only [Act.put, I2, I3, I4]
  refine aj rfl ?_
  simp only [Act.put, I2, I3, I4]
  refine aj rfl ?_
  simp only [Act.put, I2, I3, I4]
  refine aj rfl ?_
  simp only [Act.put, I2, I3, I4]
  refine aa rfl (.bool false) (fun w' hw => by simp [go_sem]) ?_
  simp only [Act.put, I2, I3, I4]
  intro y1 af
  replace X := I5 (X.out.after af)
  replace Y := I5 (Y.out.after af)
  replace B := B.trans (af.mono B.size)
  clear af
  go_wp2_with fail
  go_ret
  exact ⟨by rw [HF.out]; rfl, B⟩
 subst hq
 cases r1 with
 | false =>
  have HF : Hid (R = false) := I5 (by rw [HR.out]; simp)
  go_step
  refine bC 19 x0.heap.size x0 (Below.refl _ _) ?_
  simp only [List.take_succ_cons, List.take_zero, List.drop_succ_cons, List.drop_zero]
  refine aa rfl (.pointer (some ⟨w.heap.size, 0, none⟩)) (fun w' hw => by simp [go_sem]) ?_
  simp only [Act.put, I2, I3, I4]
  refine aa rfl (.int .u8 vo) (fun w' hw => by have := (X.out.after hw).cell 0 rfl; simp [go_sem, this]) ?_
  simp only [Act.put, I2, I3, I4]
  refine aa rfl (.pointer (some ⟨(w.heap.size + 1), 0, none⟩)) (fun w' hw => by simp [go_sem]) ?_
  simp only [Act.put, I2, I3, I4]
  refine aa rfl (.int .u8 vo) (fun w' hw => by have := (Y.out.after hw).cell 0 rfl; simp [go_sem, this]) ?_
  simp only [Act.put, I2, I3, I4]
  refine aa rfl (.bool true) (fun w' hw => by simp [go_sem]) ?_
  simp only [Act.put, I2, I3, I4]
  refine aa rfl (.bool true) (fun w' hw => by simp [go_sem]) ?_
  simp only [Act.put, I2, I3, I4]
  refine aa rfl (.pointer (some ⟨w.heap.size, 1, none⟩)) (fun w' hw => by simp [go_sem]) ?_
  simp only [Act.put, I2, I3, I4]
  refine bI rfl 25 _ rfl _ 1 rfl [.bool am, .bool ak, .slice aE aB aD] _ (Box.midR X.out 1 [.bool am, .bool ak, .slice aE aB aD] rfl) X.out.lt Tryz.underlying25 rfl (by kernel_rfl) ?_
  simp only [Act.put, I2, I3, I4]
  refine aa rfl (.pointer (some ⟨(w.heap.size + 1), 1, none⟩)) (fun w' hw => by simp [go_sem]) ?_
  simp only [Act.put, I2, I3, I4]
  refine bI rfl 25 _ rfl _ 1 rfl [.bool eu, .bool et, .slice eY eW eX] _ (Box.midR Y.out 1 [.bool eu, .bool et, .slice eY eW eX] rfl) Y.out.lt Tryz.underlying25 rfl (by kernel_rfl) ?_
  simp only [Act.put, I2, I3, I4]
  refine be rfl 125 #[.agg #[.bool am, .bool ak, .slice aE aB aD], .agg #[.bool eu, .bool et, .slice eY eW eX]] (fun w' => by simp [go_sem]) (.bool false) (Nat.le_refl _) (fun w' hw => C1.out w' (B.trans (hw.mono B.size))) ?_
  simp only [Act.put, I2, I3, I4]
  refine aa rfl (.bool false) (fun w' hw => by simp [go_sem]) ?_
  simp only [Act.put, I2, I3, I4]
  refine aa rfl (.bool false) (fun w' hw => by simp [go_sem]) ?_
  simp only [Act.put, I2, I3, I4]
  refine aj rfl ?_
  simp only [Act.put, I2, I3, I4]
  refine aj rfl ?_
  simp only [Act.put, I2, I3, I4]
  refine aj rfl ?_
  simp only [Act.put, I2, I3, I4]
  refine aj rfl ?_
  simp only [Act.put, I2, I3, I4]
  refine aj rfl ?_
  simp only [Act.put, I2, I3, I4]
  refine aa rfl (.bool false) (fun w' hw => by simp [go_sem]) ?_
  simp only [Act.put, I2, I3, I4]
  intro y1 af
  replace X := I5 (X.out.after af)
  replace Y := I5 (Y.out.after af)
  replace B := B.trans (af.mono B.size)
  clear af
  go_wp2_with fail
  go_ret
  exact ⟨by rw [HF.out]; rfl, B⟩
 | true =>
  have HF : Hid (R = r2) := I5 (by rw [HR.out]; simp)
  go_step
  refine bC 19 x0.heap.size x0 (Below.refl _ _) ?_
  simp only [List.take_succ_cons, List.take_zero, List.drop_succ_cons, List.drop_zero]
  refine aa rfl (.pointer (some ⟨w.heap.size, 0, none⟩)) (fun w' hw => by simp [go_sem]) ?_
  simp only [Act.put, I2, I3, I4]
  refine aa rfl (.int .u8 vo) (fun w' hw => by have := (X.out.after hw).cell 0 rfl; simp [go_sem, this]) ?_
  simp only [Act.put, I2, I3, I4]
  refine aa rfl (.pointer (some ⟨(w.heap.size + 1), 0, none⟩)) (fun w' hw => by simp [go_sem]) ?_
  simp only [Act.put, I2, I3, I4]
  refine aa rfl (.int .u8 vo) (fun w' hw => by have := (Y.out.after hw).cell 0 rfl; simp [go_sem, this]) ?_
  simp only [Act.put, I2, I3, I4]
  refine aa rfl (.bool true) (fun w' hw => by simp [go_sem]) ?_
  simp only [Act.put, I2, I3, I4]
  refine aa rfl (.bool true) (fun w' hw => by simp [go_sem]) ?_
  simp only [Act.put, I2, I3, I4]
  refine aa rfl (.pointer (some ⟨w.heap.size, 1, none⟩)) (fun w' hw => by simp [go_sem]) ?_
  simp only [Act.put, I2, I3, I4]
  refine bI rfl 25 _ rfl _ 1 rfl [.bool am, .bool ak, .slice aE aB aD] _ (Box.midR X.out 1 [.bool am, .bool ak, .slice aE aB aD] rfl) X.out.lt Tryz.underlying25 rfl (by kernel_rfl) ?_
  simp only [Act.put, I2, I3, I4]
  refine aa rfl (.pointer (some ⟨(w.heap.size + 1), 1, none⟩)) (fun w' hw => by simp [go_sem]) ?_
  simp only [Act.put, I2, I3, I4]
  refine bI rfl 25 _ rfl _ 1 rfl [.bool eu, .bool et, .slice eY eW eX] _ (Box.midR Y.out 1 [.bool eu, .bool et, .slice eY eW eX] rfl) Y.out.lt Tryz.underlying25 rfl (by kernel_rfl) ?_
  simp only [Act.put, I2, I3, I4]
  refine be rfl 125 #[.agg #[.bool am, .bool ak, .slice aE aB aD], .agg #[.bool eu, .bool et, .slice eY eW eX]] (fun w' => by simp [go_sem]) (.bool true) (Nat.le_refl _) (fun w' hw => C1.out w' (B.trans (hw.mono B.size))) ?_
  simp only [Act.put, I2, I3, I4]
  refine aa rfl (.bool true) (fun w' hw => by simp [go_sem]) ?_
  simp only [Act.put, I2, I3, I4]
  refine aa rfl (.bool true) (fun w' hw => by simp [go_sem]) ?_
  simp only [Act.put, I2, I3, I4]
  refine aa rfl (.pointer (some ⟨w.heap.size, 4, none⟩)) (fun w' hw => by simp [go_sem]) ?_
  simp only [Act.put, I2, I3, I4]
  refine bI rfl 25 _ rfl _ 4 rfl [.bool ar, .bool aq, .slice aI aC aH] _ (Box.midR X.out 4 [.bool ar, .bool aq, .slice aI aC aH] rfl) X.out.lt Tryz.underlying25 rfl (by kernel_rfl) ?_
  simp only [Act.put, I2, I3, I4]
  refine aa rfl (.pointer (some ⟨(w.heap.size + 1), 4, none⟩)) (fun w' hw => by simp [go_sem]) ?_
  simp only [Act.put, I2, I3, I4]
  refine bI rfl 25 _ rfl _ 4 rfl [.bool fa, .bool eZ, .slice fw fu fv] _ (Box.midR Y.out 4 [.bool fa, .bool eZ, .slice fw fu fv] rfl) Y.out.lt Tryz.underlying25 rfl (by kernel_rfl) ?_
  simp only [Act.put, I2, I3, I4]
  refine be rfl 125 #[.agg #[.bool ar, .bool aq, .slice aI aC aH], .agg #[.bool fa, .bool eZ, .slice fw fu fv]] (fun w' => by simp [go_sem]) (.bool r2) (Nat.le_refl _) (fun w' hw => C2.out w' (B.trans (hw.mono B.size))) ?_
  simp only [Act.put, I2, I3, I4]
  refine aa rfl (.bool r2) (fun w' hw => by simp [go_sem]) ?_
  simp only [Act.put, I2, I3, I4]
  intro y1 af
  replace X := I5 (X.out.after af)
  replace Y := I5 (Y.out.after af)
  replace B := B.trans (af.mono B.size)
  clear af
  go_wp2_with fail
  go_ret
  exact ⟨by rw [HF.out]; rfl, B⟩
theorem ve (ay : Nat) (aw : Option Addr) (ap av : Nat) (aA : Option Addr) (aS az : Nat) (vo : Nat) (am ak : Bool) (aE : Option Addr) (aB aD : Nat) (iw : List UInt8) (ar aq : Bool) (aI : Option Addr) (aC aH : Nat) (ix : List UInt8) (w : World) (an : Sl w aE aB aD iw) (aO : Sl w aI aC aH ix) (CJ : aB ≤ 6000) (qb : aC ≤ 6000) :
  Calls Tryz.prog 67 #[.agg #[.int .u8 ay, .slice aw ap av, .slice aA aS az, .int .u8 vo, .bool am, .bool ak, .slice aE aB aD, .bool ar, .bool aq, .slice aI aC aH]] w fun e w' => e = .returned (.bool (blankT ay ap aS ⟨vo, ⟨am, ak, iw⟩, ⟨ar, aq, ix⟩⟩)) ∧ Below w.heap.size w w' := by
 have fL := I5 an
 have mJ := I5 aO
 have o7 := CJ
 have zL := qb
 clear an aO CJ qb
 obtain ⟨q, hq⟩ : ∃ q, q = sameR ⟨vo, ⟨am, ak, iw⟩, ⟨ar, aq, ix⟩⟩ noR := ⟨_, rfl⟩
 obtain ⟨mb, uu⟩ : ∃ q, q = mayB ⟨vo, ⟨am, ak, iw⟩, ⟨ar, aq, ix⟩⟩ := ⟨_, rfl⟩
 obtain ⟨d, hd⟩ : ∃ d, d = decide (0 < ap) := ⟨_, rfl⟩
 obtain ⟨k, hk⟩ : ∃ k, k = decide (0 < aS) := ⟨_, rfl⟩
 have HB := I5 (show blankT ay ap aS ⟨vo, ⟨am, ak, iw⟩, ⟨ar, aq, ix⟩⟩ = (if ay = 1 then !d && !k && q else if ay = 2 ∨ ay = 5 then !k && q else if ay = 3 ∨ ay = 4 then !d && q else decide (ay = 6) && !d && !k && mb) by rw [hd, hk, hq, uu]; rfl)
 generalize blankT ay ap aS ⟨vo, ⟨am, ak, iw⟩, ⟨ar, aq, ix⟩⟩ = R9 at *
 have CS := I5 (fun w' (h : Below w.heap.size w w') => qT vo am ak aE aB aD iw ar aq aI aC aH ix 0 false false none 0 0 [] false false none 0 0 [] w' (fL.out.after h) (mJ.out.after h) (Sl.nil _) (Sl.nil _))
 simp only [show sameR ⟨vo, ⟨am, ak, iw⟩, ⟨ar, aq, ix⟩⟩ ⟨(0 : Nat), ⟨false, false, []⟩, ⟨false, false, []⟩⟩ = q from hq.symm] at CS
 have CM := I5 (fun w' (h : Below w.heap.size w w') => aR vo am ak aE aB aD iw ar aq aI aC aH ix w' (fL.out.after h) o7 (mJ.out.after h) zL)
 simp only [← uu] at CM
 have Dz : decide ((0 : Int) < (ap : Int)) = d := by rw [hd]; simp
 have nM : decide ((0 : Int) < (aS : Int)) = k := by rw [hk]; simp
 replace hd := I5 hd
 replace hk := I5 hk
 replace Dz := I5 Dz
 replace nM := I5 nM
 clear hq uu
 let x0 := (w.alloc (.cells #[.int .u8 ay, .slice aw ap av, .slice aA aS az, .int .u8 vo, .bool am, .bool ak, .slice aE aB aD, .bool ar, .bool aq, .slice aI aC aH] 29))
 have B : Below w.heap.size w x0 := (Below.refl _ _).alloc (Nat.le_refl _) _
 have X : Hid (Box x0 w.heap.size 29 #[.int .u8 ay, .slice aw ap av, .slice aA aS az, .int .u8 vo, .bool am, .bool ak, .slice aE aB aD, .bool ar, .bool aq, .slice aI aC aH]) := I5 (Box.new _ _ _)
 show Calls _ _ #[.agg #[.int .u8 ay, .slice aw ap av, .slice aA aS az, .int .u8 vo, .bool am, .bool ak, .slice aE aB aD, .bool ar, .bool aq, .slice aI aC aH]] _ _
 go_enter Tryz.func67, Tryz.ntmps67
 go_upto_region 1 with fail
 change Code.wp _ _ _ _ x0
 clear_value x0
 refine aP x0.heap.size x0 rfl (by kernel_rfl) (Below.refl _ _) ?_
 refine aa rfl (.pointer (some ⟨w.heap.size, 1, none⟩)) (fun w' hw => by simp [go_sem]) ?_
 simp only [Act.put, I2, I3, I4]
 refine aa rfl (.slice aw ap av) (fun w' hw => by have := (X.out.after hw).cell 1 rfl; simp [go_sem, this]) ?_
 simp only [Act.put, I2, I3, I4]
 refine aa rfl (.int .i64 ap) (fun w' hw => by simp [go_sem]) ?_
 simp only [Act.put, I2, I3, I4]
 refine aa rfl (.bool d) (fun w' hw => by have h2 := Dz.out; simp [go_sem]; simpa using h2) ?_
 simp only [Act.put, I2, I3, I4]
 refine aa rfl (.pointer (some ⟨w.heap.size, 2, none⟩)) (fun w' hw => by simp [go_sem]) ?_
 simp only [Act.put, I2, I3, I4]
 refine aa rfl (.slice aA aS az) (fun w' hw => by have := (X.out.after hw).cell 2 rfl; simp [go_sem, this]) ?_
 simp only [Act.put, I2, I3, I4]
 refine aa rfl (.int .i64 aS) (fun w' hw => by simp [go_sem]) ?_
 simp only [Act.put, I2, I3, I4]
 refine aa rfl (.bool k) (fun w' hw => by have h2 := nM.out; simp [go_sem]; simpa using h2) ?_
 simp only [Act.put, I2, I3, I4]
 refine aa rfl (.pointer (some ⟨w.heap.size, 3, none⟩)) (fun w' hw => by simp [go_sem]) ?_
 simp only [Act.put, I2, I3, I4]
 refine bI rfl 27 _ rfl _ 3 rfl [.int .u8 vo, .bool am, .bool ak, .slice aE aB aD, .bool ar, .bool aq, .slice aI aC aH] _ (Box.midR X.out 3 [.int .u8 vo, .bool am, .bool ak, .slice aE aB aD, .bool ar, .bool aq, .slice aI aC aH] rfl) X.out.lt Tryz.underlying27 rfl (by kernel_rfl) ?_
 simp only [Act.put, I2, I3, I4]
 refine aa rfl (.agg #[.int .u8 0, .bool false, .bool false, .slice none 0 0, .bool false, .bool false, .slice none 0 0]) (fun w' hw => by simp [go_sem]) ?_
 simp only [Act.put, I2, I3, I4]
 refine be rfl 103 #[.agg #[.int .u8 vo, .bool am, .bool ak, .slice aE aB aD, .bool ar, .bool aq, .slice aI aC aH], .agg #[.int .u8 0, .bool false, .bool false, .slice none 0 0, .bool false, .bool false, .slice none 0 0]] (fun w' => by simp [go_sem]) (.bool q) (Nat.le_refl _) (fun w' hw => CS.out w' (B.trans (hw.mono B.size))) ?_
 simp only [Act.put, I2, I3, I4]
 refine aa rfl (.bool (!q)) (fun w' hw => by simp [go_sem]) ?_
 simp only [Act.put, I2, I3, I4]
 refine aa rfl (.bool d) (fun w' hw => by simp [go_sem]) ?_
 simp only [Act.put, I2, I3, I4]
 refine aa rfl (.bool k) (fun w' hw => by simp [go_sem]) ?_
 simp only [Act.put, I2, I3, I4]
 refine aa rfl (.bool (!q)) (fun w' hw => by simp [go_sem]) ?_
 simp only [Act.put, I2, I3, I4]
 intro y1 af
 replace X := I5 (X.out.after af)
 replace B := B.trans (af.mono B.size)
 clear af
 clear CS hd hk Dz nM
 have q0 := X.out.cell 0 rfl
 by_cases h1 : ay = 1
 case pos =>
  subst h1
  have HF : Hid (R9 = (!d && !k && q)) := I5 (HB.out)
  clear HB CM
  cases d <;> cases k <;> cases q <;> (go_wp2_with fail; go_ret; exact ⟨by rw [HF.out]; rfl, B⟩)
 have t1 : ((ay : Int) == 1) = false := by simp; omega
 by_cases h2 : ay = 2
 case pos =>
  subst h2
  have HF : Hid (R9 = (!k && q)) := I5 (HB.out)
  clear HB CM
  cases d <;> cases k <;> cases q <;> (go_wp2_with fail; go_ret; exact ⟨by rw [HF.out]; rfl, B⟩)
 have t2 : ((ay : Int) == 2) = false := by simp; omega
 by_cases h5 : ay = 5
 case pos =>
  subst h5
  have HF : Hid (R9 = (!k && q)) := I5 (HB.out)
  clear HB CM
  cases d <;> cases k <;> cases q <;> (go_wp2_with fail; go_ret; exact ⟨by rw [HF.out]; rfl, B⟩)
 have t5 : ((ay : Int) == 5) = false := by simp; omega
 by_cases h3 : ay = 3
 case pos =>
  subst h3
  have HF : Hid (R9 = (!d && q)) := I5 (HB.out)
  clear HB CM
  cases d <;> cases k <;> cases q <;> (go_wp2_with fail; go_ret; exact ⟨by rw [HF.out]; rfl, B⟩)
 have t3 : ((ay : Int) == 3) = false := by simp; omega
 by_cases h4 : ay = 4
 case pos =>
  subst h4
  have HF : Hid (R9 = (!d && q)) := I5 (HB.out)
  clear HB CM
  cases d <;> cases k <;> cases q <;> (go_wp2_with fail; go_ret; exact ⟨by rw [HF.out]; rfl, B⟩)
 have t4 : ((ay : Int) == 4) = false := by simp; omega
 have Bj : Hid (R9 = (decide (ay = 6) && !d && !k && mb)) := I5 (by rw [HB.out, if_neg h1, if_neg (by omega), if_neg (by omega)])
 clear HB h1 h2 h3 h4 h5
 by_cases h6 : ay = 6
 case neg =>
  have t6 : ((ay : Int) == 6) = false := by simp; omega
  have HF : Hid (R9 = false) := I5 (by rw [Bj.out]; simp [h6])
  clear Bj CM h6
  go_wp2_with fail
  go_ret
  exact ⟨by rw [HF.out]; rfl, B⟩
 subst h6
 clear t1 t2 t3 t4 t5
 cases d with
 | true =>
  have HF : Hid (R9 = false) := I5 (by rw [Bj.out]; simp)
  clear Bj CM
  cases k <;> (go_wp2_with fail; go_ret; exact ⟨by rw [HF.out]; rfl, B⟩)
 | false =>
  cases k with
  | true =>
   have HF : Hid (R9 = false) := I5 (by rw [Bj.out]; simp)
   clear Bj CM
   go_wp2_with fail
   go_ret
   exact ⟨by rw [HF.out]; rfl, B⟩
  | false =>
   have HF : Hid (R9 = mb) := I5 (by rw [Bj.out]; simp)
   go_wp2_with (refine ai rfl 27 _ rfl _ 3 rfl [.int .u8 vo, .bool am, .bool ak, .slice aE aB aD, .bool ar, .bool aq, .slice aI aC aH] _ (Box.midR X.out 3 [.int .u8 vo, .bool am, .bool ak, .slice aE aB aD, .bool ar, .bool aq, .slice aI aC aH] rfl) Tryz.underlying27 rfl (by kernel_rfl) ?_)
   refine (CM.out y1 B).mono ?_
   rintro e x1 ⟨rfl, bx1⟩
   replace X := I5 (X.out.after bx1)
   replace B := B.trans (bx1.mono B.size)
   clear bx1
   go_wp2_with fail
   go_ret
   exact ⟨by rw [HF.out]; rfl, B⟩
end Go.Proofs.YtmmkaclmgnpplaaGreatDoor

import Derived.Test.YtmmkaclmgnpplaaGreatDoorMz43
import Derived.Test.YtmmkaclmgnpplaaGreatDoorMz44
set_option maxRecDepth 100000
set_option maxHeartbeats 64000000
set_option linter.unusedSimpArgs false
set_option linter.unusedVariables false
namespace Go.Proofs.YtmmkaclmgnpplaaGreatDoor
open Go.RowKit
theorem rj (g : Nat) (s : ByteArray) (w : World) (hs : s.size ≤ 100000) (gS : ∀ q, q < s.size → okc (s.data.toList.getD q 0) = true) (hX : Box w g 100 (RdN s 0 0)) : Calls Tryz.prog 62 #[.pointer (some ⟨g, 0, none⟩)] w (ValN (Nt s.data.toList none 0 1 0) g s w) := by
 have AL := hX.lt
 let u0 := (w.alloc (.cells #[.bool false, .bool false, .slice none 0 0, .slice none 0 0, .slice none 0 0] 32))
 have B0 : Below w.heap.size w u0 := (Below.refl _ _).alloc (Nat.le_refl _) _
 have R : Hid (Box u0 w.heap.size 32 #[.bool false, .bool false, .slice none 0 0, .slice none 0 0, .slice none 0 0]) := I5 (Box.new _ _ _)
 have X := I5 (hX.after B0)
 have hz : w.heap.size < (u0).heap.size := R.out.lt
 have U : Hid (But (fun k => k = g) w u0) := I5 (But.ofBelow B0)
 clear hX B0
 go_enter Tryz.func62, Tryz.ntmps62
 go_upto_region 1 with fail
 change Code.wp _ _ _ _ u0
 clear_value u0
 go_wp2_with fail
 refine (qM g s 0 0 1 u0 X.out hs gS (by omega) (by omega) (by omega)).mono ?_
 rintro e w1 ⟨b1, r, hr, ⟨h1, rfl⟩ | ⟨h1, v, rfl, rd, X1⟩⟩
 ·have HR := I5 hr
  have H1 := I5 h1
  have HB := I5 (U.out.trans b1 (fun k hk => .inl hk))
  clear hr h1 b1
  unfold FaultN
  go_wp2_with fail
  exact ⟨rfl, HB.out, r, HR.out, .inl ⟨H1.out, rfl⟩⟩
 ·have HR := I5 hr
  have H1 := I5 h1
  have HB := I5 (U.out.trans b1 (fun k hk => .inl hk))
  have Fm := I5 rd
  have oW := I5 X1
  replace R := I5 (b1.box R.out (by omega))
  have uj := b1.size
  clear hr h1 b1 rd X1
  obtain ⟨vl, vh, a1, n1, c1, a2, n2, c2, a3, n3, c3⟩ := v
  unfold SV.val
  go_wp2_with (refine ac (cells := #[.bool vl, .bool vh, .slice a1 n1 c1, .slice a2 n2 c2, .slice a3 n3 c3]) rfl 32 _ _ rfl R.out (by rfl) (by rfl) rfl (by kernel_rfl) (by simp [Value.oneCell']) ?_; intro u9 X9 st9)
  have b9 : But (fun k => k = w.heap.size) w1 u9 := But.ofStored st9 (st9.below 0 w1 (Nat.zero_le _) (Below.refl _ _))
  exact bodyPost_ret (v := .agg #[.bool vl, .bool vh, .slice a1 n1 c1, .slice a2 n2 c2, .slice a3 n3 c3]) (ae rfl _ _ (by rfl) X9 Tryz.underlying32 rfl (by kernel_rfl)) rfl ⟨HB.out.trans b9 (fun k hk => .inr (by omega)), r, HR.out, .inr ⟨H1.out, ⟨vl, vh, a1, n1, c1, a2, n2, c2, a3, n3, c3⟩, rfl, (Fm.out.but b9 (fun k hk e => by omega)).mono (fun k hk => by omega), b9.box oW.out (by omega)⟩⟩
def ReadS (x : Sx) (w : World) (e : Ending) (w' : World) : Prop :=
 ∃ v : SV, e = .returned (.tuple #[.agg #[.bool v.l, .bool v.h, .slice v.a1 v.n1 v.c1, .slice v.a2 v.n2 v.c2, .slice v.a3 v.n3 v.c3], .int .i64 0, .int .i64 0]) ∧ RdI (fun k => w.heap.size ≤ k) w' v x ∧ Below w.heap.size w w'
theorem ri (s : ByteArray) (r0 : RV) (hn : Nt s.data.toList none 0 1 0 r0) (h0 : r0.e = 0) (oX : s.size ≤ skipN s.data.toList r0.p) (xF : r0.p ≤ s.size) (vr : r0.v.may = true) (yy : r0.v.wide 0 = false) (hs : s.size ≤ 16384) (gS : ∀ q, q < s.size → okc (s.data.toList.getD q 0) = true) (w : World) (ht : Tab w) :
  Calls Tryz.prog 61 #[.string s, .func (.func 62) #[] #[]] w (ReadS r0.v w) := by
 have HL : Hid (s.data.toList.length = s.size) := I5 (by simp)
 have HN := I5 hn
 have H0 := I5 h0
 have GA := I5 oX
 have Id := I5 xF
 have Ii := I5 vr
 have tC := I5 yy
 have zZ := I5 gS
 clear hn h0 oX xF vr yy gS
 have HT := I5 ht
 have Dv : ∀ (fn : Fn) (first cap : Array Value) (w : World), (Instr.makeFunc fn first cap).run Tryz.prog w = .ok (.func fn first cap) w := fun _ _ _ _ => rfl
 let u0 := (((w.alloc (.cells #[.bool false, .bool false, .slice none 0 0, .slice none 0 0, .slice none 0 0] 32)).alloc (.cells #[.int .i64 0] 3)).alloc (.cells #[.int .i64 0] 39))
 have B : Below w.heap.size w u0 := (((Below.refl _ _).alloc (Nat.le_refl _) _).alloc (by simp [u0, u0]) _).alloc (by simp [u0, u0]; omega) _
 have V : Hid (Box u0 w.heap.size 32 #[.bool false, .bool false, .slice none 0 0, .slice none 0 0, .slice none 0 0]) := I5 (((Box.new _ _ _).alloc _).alloc _)
 have A : Hid (Box u0 (w.heap.size + 1) 3 #[.int .i64 0]) := I5 (by
  have := (Box.new (w.alloc (.cells #[.bool false, .bool false, .slice none 0 0, .slice none 0 0, .slice none 0 0] 32)) 3 #[.int .i64 0]).alloc (.cells #[.int .i64 0] 39)
  simpa [u0] using this)
 have E : Hid (Box u0 (w.heap.size + 1 + 1) 39 #[.int .i64 0]) := I5 (by
  have := Box.new ((w.alloc (.cells #[.bool false, .bool false, .slice none 0 0, .slice none 0 0, .slice none 0 0] 32)).alloc (.cells #[.int .i64 0] 3)) 39 #[.int .i64 0]
  simpa [u0] using this)
 have hz : (u0).heap.size = w.heap.size + 3 := by simp [u0, u0]
 have HZ := I5 hz
 clear ht hz
 have hlong' : ¬ (16384 : Int) < (s.size : Int) := by omega
 go_enter_defers Tryz.func61, Tryz.ntmps61
 go_upto_region 1 with fail
 change Code.wp _ _ _ _ u0
 clear_value u0
 go_upto_region 5 with fail
 let u1 := (u0.alloc (.cells #[.string s, .int .i64 0, .int .i64 0] 100))
 have X : Hid (Box u1 u0.heap.size 100 (RdN s 0 0)) := I5 (Box.new _ _ _)
 have ba : Below u0.heap.size u0 u1 := (Below.refl _ _).alloc (Nat.le_refl _) _
 replace V := I5 (V.out.after ba)
 replace A := I5 (A.out.after ba)
 replace E := I5 (E.out.after ba)
 replace B := B.trans (ba.mono B.size)
 have Hp : w.heap.size + 3 ≤ u0.heap.size := by have := HZ.out; omega
 have m7 := X.out.lt
 clear ba
 change Code.wp _ _ _ _ u1
 clear_value u1
 clear HZ
 generalize u0.heap.size = g at *
 go_wp2_with fail
 refine (rj g s u1 (by omega) zZ.out X.out).mono ?_
 rintro e w1 ⟨b1, r, hr, ⟨h1, rfl⟩ | ⟨h1, v, rfl, rd, X1⟩⟩
 ·obtain rfl := hr.det HN.out
  exact absurd H0.out h1
 obtain ⟨vl, vh, a1, n1, c1, a2, n2, c2, a3, n3, c3⟩ := v
 unfold SV.val
 obtain rfl := hr.det HN.out
 have xF := Id.out
 have HR := I5 hr
 have H1 := I5 h1
 replace V := I5 (b1.box V.out (by omega))
 replace A := I5 (b1.box A.out (by omega))
 replace E := I5 (b1.box E.out (by omega))
 have B1 : Below w.heap.size w w1 := b1.after B B.size (fun k hk => by omega)
 have RD := I5 rd
 have X1' := I5 X1
 have uj := b1.size
 clear hr h1 b1 X B rd X1
 go_upto_region 6 with (refine ac (cells := #[.bool vl, .bool vh, .slice a1 n1 c1, .slice a2 n2 c2, .slice a3 n3 c3]) rfl 32 _ _ rfl V.out (by rfl) (by rfl) rfl (by kernel_rfl) (by simp [Value.oneCell']) ?_; intro u5 V5 st5)
 have b5 : But (fun k => k = w.heap.size) w1 u5 := But.ofStored st5 (st5.below 0 w1 (Nat.zero_le _) (Below.refl _ _))
 replace A := I5 (b5.box A.out (by omega))
 replace E := I5 (b5.box E.out (by omega))
 have X5 := I5 (b5.box X1'.out (by omega))
 have RD5 := I5 (RD.out.but b5 (fun k hk => by omega))
 have B5 : Below w.heap.size w u5 := b5.after B1 B1.size (fun k hk => by omega)
 have V5' := I5 V5
 have DR := b5.size
 clear b5 st5 V V5 X1' B1 RD
 go_wp2_with fail
 refine (rX g s r.p r.n u5 X5.out (by omega) xF).mono ?_
 rintro e w6 ⟨b6, ⟨h6, rfl⟩ | ⟨h6, rfl⟩⟩
 ·exact absurd h6 (by have := GA.out; omega)
 replace A := I5 (b6.box A.out (by omega))
 replace E := I5 (b6.box E.out (by omega))
 have V6 := I5 (b6.box V5'.out (by omega))
 have RD6 := I5 (RD5.out.but b6 (fun k hk => by omega))
 have B6 : Below w.heap.size w w6 := b6.after B5 B5.size (fun k hk => by omega)
 have H6 := I5 h6
 have GW := b6.size
 clear b6 h6 V5' RD5 B5 X5
 go_wp2_with (refine ab rfl 32 _ rfl V6.out (by rfl) Tryz.underlying32 rfl (by kernel_rfl) ?_)
 refine (lw r.v ⟨vl, vh, a1, n1, c1, a2, n2, c2, a3, n3, c3⟩ w6 (RD6.out.mono (fun k hk => trivial)) 0 tC.out (HT.out.after B6)).mono ?_
 rintro e w7 ⟨rfl, b7⟩
 replace A := I5 (A.out.after b7)
 replace E := I5 (E.out.after b7)
 have V7 := I5 (V6.out.after b7)
 have RD7 := I5 (RD6.out.after b7)
 have B7 := B6.trans (b7.mono B6.size)
 have GV := b7.size
 clear b7 V6 RD6 B6
 rw [Ii.out]
 go_wp2_with first | (refine ab rfl 32 _ rfl V7.out (by rfl) Tryz.underlying32 rfl (by kernel_rfl) ?_) | (refine ac (cells := #[.bool vl, .bool vh, .slice a1 n1 c1, .slice a2 n2 c2, .slice a3 n3 c3]) rfl 32 _ _ rfl V7.out (by rfl) (by rfl) rfl (by kernel_rfl) (by simp [Value.oneCell']) ?_; intro u9 X9 st9; have a9 := (st9.box A.out (by omega)).cell 0 rfl; have fa9 := (st9.box A.out (by omega)).frozen 0; have e9 := (st9.box E.out (by omega)).cell 0 rfl; have fe9 := (st9.box E.out (by omega)).frozen 0)
 have b59 : But (fun k => k = w.heap.size ∨ k = w.heap.size + 1 ∨ k = w.heap.size + 1 + 1) w7 ((u9.setCell ⟨w.heap.size + 1, 0, none⟩ (.int .i64 0)).setCell ⟨w.heap.size + 1 + 1, 0, none⟩ (.int .i64 0)) := (((But.ofStored st9 (st9.below 0 w7 (Nat.zero_le _) (Below.refl _ _))).mono (fun k hk => .inl hk)).setCell (p := ⟨w.heap.size + 1, 0, none⟩) (.inl (.inr (.inl rfl))) _).setCell (p := ⟨w.heap.size + 1 + 1, 0, none⟩) (.inl (.inr (.inr rfl))) _
 have V9 := (X9.far ⟨w.heap.size + 1, 0, none⟩ (.int .i64 0) (by show w.heap.size ≠ w.heap.size + 1; omega)).far ⟨w.heap.size + 1 + 1, 0, none⟩ (.int .i64 0) (by show w.heap.size ≠ w.heap.size + 1 + 1; omega)
 have A9 : Box ((u9.setCell ⟨w.heap.size + 1, 0, none⟩ (.int .i64 0)).setCell ⟨w.heap.size + 1 + 1, 0, none⟩ (.int .i64 0)) (w.heap.size + 1) 3 #[.int .i64 0] := ((st9.box A.out (by omega)).set 0 (.int .i64 0)).far ⟨w.heap.size + 1 + 1, 0, none⟩ (.int .i64 0) (by show w.heap.size + 1 ≠ w.heap.size + 1 + 1; omega)
 have E9 : Box ((u9.setCell ⟨w.heap.size + 1, 0, none⟩ (.int .i64 0)).setCell ⟨w.heap.size + 1 + 1, 0, none⟩ (.int .i64 0)) (w.heap.size + 1 + 1) 39 #[.int .i64 0] := ((st9.box E.out (by omega)).far ⟨w.heap.size + 1, 0, none⟩ (.int .i64 0) (by show w.heap.size + 1 + 1 ≠ w.heap.size + 1; omega)).set 0 (.int .i64 0)
 generalize ((u9.setCell ⟨w.heap.size + 1, 0, none⟩ (.int .i64 0)).setCell ⟨w.heap.size + 1 + 1, 0, none⟩ (.int .i64 0)) = u8 at *
 have b9 : Below w.heap.size w u8 := b59.after B7 B7.size (fun k hk => by omega)
 have RD9 : RdI (fun k => w.heap.size ≤ k) u8 ⟨vl, vh, a1, n1, c1, a2, n2, c2, a3, n3, c3⟩ r.v := (RD7.out.but b59 (fun k hk e => by omega)).mono (fun k hk => by omega)
 have cc0 : u8.cell? ⟨w.heap.size, 0, none⟩ = some (.bool vl) := V9.cell 0 rfl
 have xr : u8.cell? ⟨w.heap.size, 1, none⟩ = some (.bool vh) := V9.cell 1 rfl
 have xq : u8.cell? ⟨w.heap.size, 2, none⟩ = some (.slice a1 n1 c1) := V9.cell 2 rfl
 have xp : u8.cell? ⟨w.heap.size, 3, none⟩ = some (.slice a2 n2 c2) := V9.cell 3 rfl
 have cc4 : u8.cell? ⟨w.heap.size, 4, none⟩ = some (.slice a3 n3 c3) := V9.cell 4 rfl
 have ca : u8.cell? ⟨w.heap.size + 1, 0, none⟩ = some (.int .i64 0) := A9.cell 0 rfl
 have ce : u8.cell? ⟨w.heap.size + 1 + 1, 0, none⟩ = some (.int .i64 0) := E9.cell 0 rfl
 refine leaves_cons (f := 91) (args := #[.pointer (some ⟨w.heap.size, 0, none⟩), .pointer (some ⟨w.heap.size + 1, 0, none⟩), .pointer (some ⟨w.heap.size + 1 + 1, 0, none⟩)]) (by simp) (by simp [go_sem]) ?_
 refine (vR _ _ _ _).mono ?_
 rintro e u' w'' ⟨rfl, rfl, rfl⟩
 simp [Leaves, settle, results, Tryz.results61, go_sem, cc0, xr, xq, xp, cc4, ca, ce]
 exact ⟨⟨vl, vh, a1, n1, c1, a2, n2, c2, a3, n3, c3⟩, rfl, RD9, b9⟩
theorem tV (s : ByteArray) (r0 : RV) (hn : Nt s.data.toList none 0 1 0 r0) (h0 : r0.e = 0) (oX : s.size ≤ skipN s.data.toList r0.p) (xF : r0.p ≤ s.size) (vr : r0.v.may = true) (yy : r0.v.wide 0 = false) (hs : s.size ≤ 16384) (gS : ∀ q, q < s.size → okc (s.data.toList.getD q 0) = true) (w : World) (ht : Tab w) : Calls Tryz.prog 34 #[.string s] w (ReadS r0.v w) := by
 let u0 := (w.alloc (.cells #[.bool false, .bool false, .slice none 0 0, .slice none 0 0, .slice none 0 0] 32))
 have R : Hid (Box u0 w.heap.size 32 #[.bool false, .bool false, .slice none 0 0, .slice none 0 0, .slice none 0 0]) := I5 (Box.new _ _ _)
 have B0 : Below w.heap.size w u0 := (Below.refl _ _).alloc (Nat.le_refl _) _
 have CA := I5 (fun w' h => ri s r0 hn h0 oX xF vr yy hs gS w' h)
 have HT := I5 (ht.after B0)
 clear ht hn h0 oX xF vr yy gS
 go_enter Tryz.func34, Tryz.ntmps34
 go_upto_region 1 with fail
 change Code.wp _ _ _ _ u0
 clear_value u0
 go_wp2_with fail
 refine (CA.out u0 HT.out).mono ?_
 rintro e w1 ⟨v, rfl, rd, b1⟩
 obtain ⟨vl, vh, a1, n1, c1, a2, n2, c2, a3, n3, c3⟩ := v
 have Fm := I5 rd
 have mg := B0.size
 have uj := R.out.lt
 replace R := I5 (R.out.after b1)
 have B1 := B0.trans (b1.mono mg)
 clear rd b1
 go_wp2_with (refine ac (cells := #[.bool vl, .bool vh, .slice a1 n1 c1, .slice a2 n2 c2, .slice a3 n3 c3]) rfl 32 _ _ rfl R.out (by rfl) (by rfl) rfl (by kernel_rfl) (by simp [Value.oneCell']) ?_; intro u9 X9 st9)
 have b9 : But (fun k => k = w.heap.size) w1 u9 := But.ofStored st9 (st9.below 0 w1 (Nat.zero_le _) (Below.refl _ _))
 exact bodyPost_ret (v := .tuple #[.agg #[.bool vl, .bool vh, .slice a1 n1 c1, .slice a2 n2 c2, .slice a3 n3 c3], .int .i64 0, .int .i64 0]) (oU (p := 2) (q := 3) (r := 4) rfl _ _ (by rfl) X9 Tryz.underlying32 rfl (by kernel_rfl)) rfl ⟨⟨vl, vh, a1, n1, c1, a2, n2, c2, a3, n3, c3⟩, rfl, (Fm.out.but b9 (fun k hk e => by omega)).mono (fun k hk => by omega), b9.after B1 B1.size (fun k hk => by omega)⟩
theorem lX (l : List UInt8) (r0 : RV) (t9 : Tg) (w : World) (hn : Nt l none 0 1 0 r0) (h0 : r0.e = 0) (oX : l.length ≤ skipN l r0.p) (xF : r0.p ≤ l.length) (vr : r0.v.may = true) (hw : r0.v.wide 0 = false) (hs : l.length ≤ 16384) (gS : ∀ q, q < l.length → okc (l.getD q 0) = true) (hg : GetOk r0.v t9) (ht : Tab w) :
  Calls Tryz.prog 19 #[.string ⟨l.toArray⟩] w (TagP t9 w) := by
 have HT := I5 ht
 have HG := I5 hg
 have HW := I5 hw
 have HM := I5 vr
 have Ic := I5 (fun w' h => tV ⟨l.toArray⟩ r0 hn h0 oX xF vr hw hs gS w' h)
 clear ht hg hw hn h0 oX xF vr hs gS
 let x0 := (w.alloc (.cells #[.int .u8 0, .slice none 0 0, .slice none 0 0, .int .u8 0, .bool false, .bool false, .slice none 0 0, .bool false, .bool false, .slice none 0 0] 29))
 have B : Below w.heap.size w x0 := (Below.refl _ _).alloc (Nat.le_refl _) _
 have Y : Hid (Box x0 w.heap.size 29 #[.int .u8 0, .slice none 0 0, .slice none 0 0, .int .u8 0, .bool false, .bool false, .slice none 0 0, .bool false, .bool false, .slice none 0 0]) := I5 (Box.new _ _ _)
 go_enter Tryz.func19, Tryz.ntmps19
 go_upto_region 1 with fail
 change Code.wp _ _ _ _ x0
 clear_value x0
 go_wp2_with fail
 refine (Ic.out x0 (HT.out.after B)).mono ?_
 rintro e x1 ⟨v, rfl, rd, bx1⟩
 obtain ⟨vl, vh, aw, ap, av, aA, aS, az, cM, dO, cz⟩ := v
 have RD := I5 (rd.mono (fun _ _ => trivial))
 clear rd
 replace Y := I5 (Y.out.after bx1)
 replace B := B.trans (bx1.mono B.size)
 clear bx1
 go_upto_region 2 with (refine ac (cells := #[.bool vl, .bool vh, .slice aw ap av, .slice aA aS az, .slice cM dO cz]) rfl 32 _ _ rfl (Box.new _ _ _) (by rfl) (by rfl) rfl (by kernel_rfl) (by simp [Value.oneCell']) ?_; intro u9 X9 st9)
 have bs2 : Below x1.heap.size x1 u9 := st9.below x1.heap.size x1 (Nat.le_refl _) ((Below.refl _ _).alloc (Nat.le_refl _) _)
 have Y1 := I5 X9
 replace Y := I5 (Y.out.after bs2)
 replace RD := I5 (RD.out.after bs2)
 replace B := B.trans (bs2.mono B.size)
 clear bs2 st9 X9
 generalize u9 = x2 at *
 generalize x1.heap.size = y1 at *
 go_wp2_with (refine ab rfl 32 _ rfl Y1.out (by rfl) Tryz.underlying32 rfl (by kernel_rfl) ?_)
 refine (wL r0.v t9 ⟨vl, vh, aw, ap, av, aA, aS, az, cM, dO, cz⟩ x2 RD.out HG.out HM.out HW.out (HT.out.after B)).mono ?_
 rintro e x8 ⟨⟨cS, bR, bN, bP, bQ, bL, bO, I8, cP, cN, cR, cO, cQ, cW, cT, cY, cU, cX⟩, rfl, rt, bx8⟩
 simp only [TV.val]
 have uk := Y.out.lt
 have RT := I5 rt
 clear rt
 replace Y := I5 (Y.out.after bx8)
 replace RD := I5 (RD.out.after bx8)
 replace Y1 := I5 (Y1.out.after bx8)
 replace B := B.trans (bx8.mono B.size)
 clear bx8
 have RT2 := I5 (RT.out.mono (ok' := fun b => w.heap.size + 1 ≤ b) (fun b hb => by have h1 : x2.heap.size ≤ b := hb; omega))
 clear RT
 go_upto_region 3 with (refine ac (cells := #[.int .u8 cS, .slice bR bN bP, .slice bQ bL bO, .int .u8 I8, .bool cP, .bool cN, .slice cR cO cQ, .bool cW, .bool cT, .slice cY cU cX]) rfl 29 _ _ rfl (Box.new _ _ _) (by rfl) (by rfl) rfl (by kernel_rfl) (by simp [Value.oneCell']) ?_; intro u9 X9 st9)
 have bs9 : Below x8.heap.size x8 u9 := st9.below x8.heap.size x8 (Nat.le_refl _) ((Below.refl _ _).alloc (Nat.le_refl _) _)
 have Y2 := I5 X9
 replace Y := I5 (Y.out.after bs9)
 replace RD := I5 (RD.out.after bs9)
 replace Y1 := I5 (Y1.out.after bs9)
 replace RT2 := I5 (RT2.out.after bs9)
 replace B := B.trans (bs9.mono B.size)
 clear bs9 st9 X9
 generalize u9 = x9 at *
 generalize x8.heap.size = y2 at *
 go_wp2_with first | (refine ab rfl 29 _ rfl Y2.out (by rfl) Tryz.underlying29 rfl (by kernel_rfl) ?_) | (refine ac (cells := #[.int .u8 cS, .slice bR bN bP, .slice bQ bL bO, .int .u8 I8, .bool cP, .bool cN, .slice cR cO cQ, .bool cW, .bool cT, .slice cY cU cX]) rfl 29 _ _ rfl Y.out (by rfl) (by rfl) rfl (by kernel_rfl) (by simp [Value.oneCell']) ?_; intro u9 X9 st9)
 have B9 := st9.below w.heap.size w (by omega) B
 have R9 : RdT (fun b => w.heap.size ≤ b) u9 ⟨cS, bR, bN, bP, bQ, bL, bO, I8, cP, cN, cR, cO, cQ, cW, cT, cY, cU, cX⟩ t9 := (RT2.out.keep (fun b hb => st9.other b (by have h1 : w.heap.size + 1 ≤ b := hb; omega))).mono (fun b hb => by have h1 : w.heap.size + 1 ≤ b := hb; show w.heap.size ≤ b; omega)
 exact bodyPost_ret (v := .agg #[.int .u8 cS, .slice bR bN bP, .slice bQ bL bO, .int .u8 I8, .bool cP, .bool cN, .slice cR cO cQ, .bool cW, .bool cT, .slice cY cU cX]) (ae rfl _ _ (by rfl) X9 Tryz.underlying29 rfl (by kernel_rfl)) rfl ⟨⟨cS, bR, bN, bP, bQ, bL, bO, I8, cP, cN, cR, cO, cQ, cW, cT, cY, cU, cX⟩, rfl, R9, B9⟩
def abT : Tg := .mk 2 abL [] noR
def bT : Tg := .mk 2 [98] [] noR
def preT : Tg := .mk 5 [97] [] noR
theorem ka (n : Nat) (a b t : Tg) (p q : Nat) (hp : p < 20000) (h : bothF n a b (p + 1) = some (t, q)) (hm : t.may = true) : meetF (n + 1) a b p = some (t, q) := by
 rw [jk, if_neg (by omega), h]
 show (if t.may = true then _ else _) = _
 rw [if_pos hm]
theorem awA (n p : Nat) (hp : p < 20000) : meetF (n + 1) ftpT ftpT p = some (ftpT, p + 1) := ka n _ _ _ _ _ hp (by rw [cx]; rfl) (by decide +kernel)
theorem awB (n p : Nat) (hp : p < 20000) : meetF (n + 1) preT abT p = some (abT, p + 1) := ka n _ _ _ _ _ hp (by rw [cx]; rfl) (by decide +kernel)
theorem awC (n p : Nat) (hp : p < 20000) : meetF (n + 1) preT bT p = some (noT, p + 1) := ka n _ _ _ _ _ hp (by rw [cx]; rfl) (by decide +kernel)
theorem awD (n p : Nat) (hp : p < 19000) : meetF (n + 2) preT (.mk 4 [] [abT, bT] noR) p = some (abT, p + 3) := ka (n + 1) _ _ _ _ _ (by omega) (by
 rw [cx]
 show (match overF (fun k q => meetF (n + 1) preT k q) [abT, bT] (p + 1) with | none => none | some (l, q) => some (setT l, q)) = _
 simp only [overF]
 rw [awB n (p + 1) (by omega)]
 simp only []
 rw [awC n (p + 1 + 1) (by omega)]
 rfl) (by decide +kernel)
theorem tB : meetF (awPT.count + awST.count) awPT awST 0 = some (.mk 3 [] [ftpT, abT] noR, 5) := by
 show meetF (7 + 1) awPT awST 0 = _
 refine ka 7 _ _ _ _ _ (by omega) ?_ (by decide +kernel)
 rw [cx]
 show (match listF (meetF (5 + 2)) [ftpT, preT] [ftpT, .mk 4 [] [abT, bT] noR] 1 with | none => none | some (none, q) => some (noT, q) | some (some l, q) => some (.mk 3 [] l noR, q)) = _
 simp only [listF]
 rw [awA 6 1 (by omega)]
 simp only [show ftpT.none? = false from rfl, Bool.false_eq_true, if_false]
 rw [awD 5 (1 + 1) (by omega)]
 rfl
theorem zg : (awPT.may && awST.may) = true := by decide +kernel
theorem tA : awPT.wide 0 = false ∧ awST.wide 0 = false := ⟨by decide +kernel, by decide +kernel⟩
theorem C9 {t : Tg} {x : Nat} (h : MR awPT awST t x) : x = 0 ∧ t = .mk 3 [] [ftpT, abT] noR := by
 rcases h with ⟨h, _⟩ | ⟨_, h, _⟩ | ⟨_, ⟨q, h⟩, rfl⟩
 ·rw [zg] at h; cases h
 ·rw [tB] at h; cases h
 ·rw [tB] at h
  cases h
  exact ⟨rfl, rfl⟩
theorem ir (w : World) (ht : Tab w) : Calls Tryz.prog 8 #[] w fun e w' => e = .returned (.bool true) ∧ Below w.heap.size w w' := by
 have HT := I5 ht
 clear ht
 have C1 := I5 (show Calls Tryz.prog 19 #[.string ⟨#[40, 102, 116, 112, 32, 40, 42, 32, 112, 114, 101, 102, 105, 120, 32, 97, 41, 41]⟩] w (TagP awPT w) from lX awPL ⟨awPS, 18, 6, 0⟩ awPT w wj rfl (by decide +kernel) (by decide +kernel) zk xx (by decide) (by decide +kernel) zm HT.out)
 go_enter Tryz.func8, Tryz.ntmps8
 go_wp2_with fail
 refine C1.out.mono ?_
 rintro e x1 ⟨⟨du, eJ, dV, eI, eU, dN, eT, ao, dZ, dY, eF, ek, eE, d8, d7, eH, em, eG⟩, rfl, ra, B⟩
 have RA := I5 ra
 simp only [TV.val]
 clear ra C1
 have C2 := I5 (show Calls Tryz.prog 19 #[.string ⟨#[40, 102, 116, 112, 32, 40, 42, 32, 115, 101, 116, 32, 97, 98, 32, 98, 41, 41]⟩] x1 (TagP awST x1) from lX awSL ⟨awSS, 18, 7, 0⟩ awST x1 wi rfl (by decide +kernel) (by decide +kernel) zi xw (by decide) (by decide +kernel) zj (HT.out.after B))
 go_wp2_with fail
 refine C2.out.mono ?_
 rintro e x2 ⟨⟨dU, ej, fd, ft, fI, eS, fH, bo, eB, eA, fm, fe, fk, eD, eC, fq, ff, fp⟩, rfl, rb, b2⟩
 have RB := I5 rb
 simp only [TV.val]
 replace RA := I5 (RA.out.after b2)
 replace B := B.trans (b2.mono B.size)
 clear rb b2 C2
 have CM := I5 (xz awPT awST ⟨du, eJ, dV, eI, eU, dN, eT, ao, dZ, dY, eF, ek, eE, d8, d7, eH, em, eG⟩ ⟨dU, ej, fd, ft, fI, eS, fH, bo, eB, eA, fm, fe, fk, eD, eC, fq, ff, fp⟩ x2 (RA.out.mono (fun _ _ => trivial)) (RB.out.mono (fun _ _ => trivial)) tA.1 tA.2 (HT.out.after B))
 go_wp2_with fail
 refine CM.out.mono ?_
 rintro e x3 ⟨u, x, t, Gt, rfl, rt, b3⟩
 obtain ⟨rfl, rfl⟩ := C9 Gt
 replace B := B.trans (b3.mono B.size)
 clear Gt b3 CM RA RB
 obtain ⟨⟨cH, -, -, -, -, -, -, -⟩, -, -, -, hn, K, ah, hk⟩ := rt.parts
 have oZ := hk 1 (by decide)
 obtain ⟨⟨rJ, -, -, -, -, -, -, -⟩, an, -⟩ := oZ.parts
 replace ah := I5 ah
 obtain ⟨gZ, gB, gz, gA, gT, gR, fZ, uo, eu, et, eY, eW, eX, fa, eZ, fw, fu, fv⟩ := u
 dsimp only [Tg.kd, Tg.ks, Tg.da, abT] at cH hn ah rJ an
 replace hn : gR = 2 := hn
 replace rJ : (K 1).kd = 2 := rJ
 replace an : Sl x3 (K 1).a1 (K 1).n1 (K 1).c1 abL := an
 subst cH hn
 clear rt hk oZ
 simp only [TV.val]
 obtain ⟨b, o, rfl, a8⟩ := ah.out.range (i := 1) (by omega)
 obtain ⟨v1, ic⟩ : ∃ v1, v1 = K 1 := ⟨_, rfl⟩
 rw [← ic] at a8 rJ an
 obtain ⟨jz, jw, ju, jv, kA, kg, kz, zo, kk, ki, ko, kj, km, kw, ku, ky, kv, kx⟩ := v1
 replace rJ : jz = 2 := rJ
 subst rJ
 clear ic ah K
 have d0 : x3.cell? ⟨b, o + 10, none⟩ = some (.int .u8 ((2 : Nat) : Int)) := a8 0 _ rfl
 have d1 : x3.cell? ⟨b, o + 10 + 1, none⟩ = some (.slice jw ju jv) := a8 1 _ rfl
 clear a8
 have HS := I5 an
 clear an
 have D0 := I5 d0
 have D1 := I5 d1
 have lq := cA d0
 clear d0 d1
 go_upto_region 2 with fail
 let x4 := (x3.alloc (.cells #[.int .u8 ((3 : Nat) : Int), .slice gB gz gA, .slice (some ⟨b, o, none⟩) 2 fZ, .int .u8 uo, .bool eu, .bool et, .slice eY eW eX, .bool fa, .bool eZ, .slice fw fu fv] 29))
 change Code.wp _ _ _ _ x4
 have ca : Below x3.heap.size x3 x4 := (Below.refl _ _).alloc (Nat.le_refl _) _
 have E : Hid (Box x4 x3.heap.size 29 #[.int .u8 ((3 : Nat) : Int), .slice gB gz gA, .slice (some ⟨b, o, none⟩) 2 fZ, .int .u8 uo, .bool eu, .bool et, .slice eY eW eX, .bool fa, .bool eZ, .slice fw fu fv]) := I5 (Box.new _ _ _)
 replace HS := I5 (HS.out.after ca)
 replace D0 := I5 ((World.cell?_of_block (a := ⟨b, o + 10, none⟩) (ca.block b lq)).trans D0.out)
 replace D1 := I5 ((World.cell?_of_block (a := ⟨b, o + 10 + 1, none⟩) (ca.block b lq)).trans D1.out)
 replace B := B.trans (ca.mono B.size)
 have By := ca.size
 clear_value x4
 generalize x3.heap.size = E4 at *
 have CT : b < x4.heap.size := by omega
 clear ca
 go_step
 refine bC 30 x4.heap.size x4 (Below.refl _ _) ?_
 simp only [List.take_succ_cons, List.take_zero, List.drop_succ_cons, List.drop_zero]
 refine aa rfl (.int .i64 0) (fun w' hw => by simp [go_sem]) ?_
 simp only [Act.put, I2, I3, I4]
 refine aa rfl (.bool true) (fun w' hw => by simp [go_sem]) ?_
 simp only [Act.put, I2, I3, I4]
 refine aa rfl (.bool true) (fun w' hw => by simp [go_sem]) ?_
 simp only [Act.put, I2, I3, I4]
 refine aa rfl (.pointer (some ⟨E4, 0, none⟩)) (fun w' hw => by simp [go_sem]) ?_
 simp only [Act.put, I2, I3, I4]
 refine aa rfl (.int .u8 ((3 : Nat) : Int)) (fun w' hw => by have := (E.out.after hw).cell 0 rfl; simp [go_sem, this]) ?_
 simp only [Act.put, I2, I3, I4]
 refine aa rfl (.bool true) (fun w' hw => by simp [go_sem]) ?_
 simp only [Act.put, I2, I3, I4]
 refine aa rfl (.bool true) (fun w' hw => by simp [go_sem]) ?_
 simp only [Act.put, I2, I3, I4]
 refine aa rfl (.bool true) (fun w' hw => by simp [go_sem]) ?_
 simp only [Act.put, I2, I3, I4]
 refine aa rfl (.pointer (some ⟨E4, 2, none⟩)) (fun w' hw => by simp [go_sem]) ?_
 simp only [Act.put, I2, I3, I4]
 refine aa rfl (.slice (some ⟨b, o, none⟩) 2 fZ) (fun w' hw => by have := (E.out.after hw).cell 2 rfl; simp [go_sem, this]) ?_
 simp only [Act.put, I2, I3, I4]
 refine aa rfl (.int .i64 2) (fun w' hw => by simp [go_sem]) ?_
 simp only [Act.put, I2, I3, I4]
 refine aa rfl (.bool true) (fun w' hw => by simp [go_sem]) ?_
 simp only [Act.put, I2, I3, I4]
 refine aa rfl (.bool true) (fun w' hw => by simp [go_sem]) ?_
 simp only [Act.put, I2, I3, I4]
 refine aa rfl (.bool true) (fun w' hw => by simp [go_sem]) ?_
 simp only [Act.put, I2, I3, I4]
 refine aa rfl (.pointer (some ⟨E4, 2, none⟩)) (fun w' hw => by simp [go_sem]) ?_
 simp only [Act.put, I2, I3, I4]
 refine aa rfl (.slice (some ⟨b, o, none⟩) 2 fZ) (fun w' hw => by have := (E.out.after hw).cell 2 rfl; simp [go_sem, this]) ?_
 simp only [Act.put, I2, I3, I4]
 refine aa rfl (.pointer (some ⟨b, o + 10, none⟩)) (fun w' hw => by simp [go_sem]) ?_
 simp only [Act.put, I2, I3, I4]
 refine aa rfl (.pointer (some ⟨b, o + 10, none⟩)) (fun w' hw => by simp [go_sem]) ?_
 simp only [Act.put, I2, I3, I4]
 refine aa rfl (.int .u8 ((2 : Nat) : Int)) (fun w' hw => by have := (World.cell?_of_block (a := ⟨b, o + 10, none⟩) (hw.block b CT)).trans D0.out; simp [go_sem, this]) ?_
 simp only [Act.put, I2, I3, I4]
 refine aa rfl (.bool true) (fun w' hw => by simp [go_sem]) ?_
 simp only [Act.put, I2, I3, I4]
 refine aa rfl (.bool true) (fun w' hw => by simp [go_sem]) ?_
 simp only [Act.put, I2, I3, I4]
 refine aa rfl (.bool true) (fun w' hw => by simp [go_sem]) ?_
 simp only [Act.put, I2, I3, I4]
 refine aa rfl (.pointer (some ⟨E4, 2, none⟩)) (fun w' hw => by simp [go_sem]) ?_
 simp only [Act.put, I2, I3, I4]
 refine aa rfl (.slice (some ⟨b, o, none⟩) 2 fZ) (fun w' hw => by have := (E.out.after hw).cell 2 rfl; simp [go_sem, this]) ?_
 simp only [Act.put, I2, I3, I4]
 refine aa rfl (.pointer (some ⟨b, o + 10, none⟩)) (fun w' hw => by simp [go_sem]) ?_
 simp only [Act.put, I2, I3, I4]
 refine aa rfl (.pointer (some ⟨b, o + 10 + 1, none⟩)) (fun w' hw => by simp [go_sem]) ?_
 simp only [Act.put, I2, I3, I4]
 refine aa rfl (.slice jw ju jv) (fun w' hw => by have := (World.cell?_of_block (a := ⟨b, o + 10 + 1, none⟩) (hw.block b CT)).trans D1.out; simp [go_sem, this]) ?_
 simp only [Act.put, I2, I3, I4]
 refine aa rfl (.string ⟨abL.toArray⟩) (fun w' hw => by have := bv (HS.out.after hw); simp [go_sem, this]) ?_
 simp only [Act.put, I2, I3, I4]
 refine aa rfl (.bool true) (fun w' hw => by simp [go_sem, abL]) ?_
 simp only [Act.put, I2, I3, I4]
 refine aa rfl (.bool true) (fun w' hw => by simp [go_sem]) ?_
 simp only [Act.put, I2, I3, I4]
 intro y5 hb5
 replace E := I5 (E.out.after hb5)
 replace HS := I5 (HS.out.after hb5)
 replace B := B.trans (hb5.mono B.size)
 clear hb5
 go_wp2_with fail
 go_ret
 exact ⟨rfl, B⟩
end Go.Proofs.YtmmkaclmgnpplaaGreatDoor

import Derived.Test.YtmmkaclmgnpplaaGreatDoorMz30
set_option maxRecDepth 100000
set_option maxHeartbeats 64000000
set_option linter.unusedSimpArgs false
set_option linter.unusedVariables false
namespace Go.Proofs.YtmmkaclmgnpplaaGreatDoor
open Go.RowKit
theorem I7 (o : Nat) : (nameO o).length ≤ 7 := by
 unfold nameO
 repeat' split
 all_goals decide
theorem pI (o : Nat) (w : World) (ho : o < 256) : Calls Tryz.prog 48 #[.int .u8 o] w fun e w' => e = .returned (.string ⟨(nameO o).toArray⟩) ∧ Below w.heap.size w w' := by
 have B : Below w.heap.size w (w.alloc (.cells #[.string ⟨#[]⟩, .string ⟨#[97, 108, 112, 104, 97]⟩, .string ⟨#[110, 117, 109, 101, 114, 105, 99]⟩, .string ⟨#[116, 105, 109, 101]⟩, .string ⟨#[98, 105, 110, 97, 114, 121]⟩, .string ⟨#[100, 97, 116, 101]⟩] 9)) := (Below.refl _ _).alloc (Nat.le_refl _) _
 have X := Box.new w 9 #[.string ⟨#[]⟩, .string ⟨#[97, 108, 112, 104, 97]⟩, .string ⟨#[110, 117, 109, 101, 114, 105, 99]⟩, .string ⟨#[116, 105, 109, 101]⟩, .string ⟨#[98, 105, 110, 97, 114, 121]⟩, .string ⟨#[100, 97, 116, 101]⟩]
 have c0 := X.cell 0 rfl
 have c1 := X.cell 1 rfl
 have c2 := X.cell 2 rfl
 have c3 := X.cell 3 rfl
 have c4 := X.cell 4 rfl
 have c5 := X.cell 5 rfl
 clear X
 by_cases h5 : o ≤ 5
 case neg =>
  have e : nameO o = [] := by unfold nameO; rw [if_neg (by omega), if_neg (by omega), if_neg (by omega), if_neg (by omega), if_neg (by omega)]
  rw [e]
  have h5i : (5 : Int) < o := by omega
  clear e h5
  go_enter Tryz.func48, Tryz.ntmps48
  go_wp2_with fail
  go_ret
  exact ⟨rfl, B⟩
 have oP : o = 0 ∨ o = 1 ∨ o = 2 ∨ o = 3 ∨ o = 4 ∨ o = 5 := by omega
 rcases oP with rfl | rfl | rfl | rfl | rfl | rfl <;>
  (go_enter Tryz.func48, Tryz.ntmps48; go_wp2_with fail; go_ret; exact ⟨rfl, B⟩)
def BndR (B0 : Nat) (l : List Sx) (w : World) (e : Ending) (w' : World) : Prop := ∃ v, e = .returned v ∧ RowsP (fun b => b < B0 ∨ w.heap.size ≤ b) l w.heap.size v w' ∧ Below w.heap.size w w'
theorem jH (xi xo : Bool) (xa : Option Addr) (xn xc : Nat) (xl : List UInt8) (ch : UInt8) (B0 : Nat) (w : World) (qd : B0 ≤ w.heap.size) (hs : Sl w xa xn xc xl) (jb : InB (fun b => b < B0) xa xn) :
  Calls Tryz.prog 49 #[.agg #[.bool xi, .bool xo, .slice xa xn xc], .string ⟨#[ch]⟩] w (BndR B0 (bnd ⟨xi, xo, xl⟩ ch) w) := by
 have HS := I5 hs
 have HI := I5 jb
 clear hs jb
 let x0 := (w.alloc (.cells #[.bool xi, .bool xo, .slice xa xn xc] 25))
 have B : Below w.heap.size w x0 := (Below.refl _ _).alloc (Nat.le_refl _) _
 have X : Hid (Box x0 w.heap.size 25 #[.bool xi, .bool xo, .slice xa xn xc]) := I5 (Box.new _ _ _)
 show Calls _ _ #[.agg #[.bool xi, .bool xo, .slice xa xn xc], .string ⟨#[ch]⟩] _ _
 go_enter Tryz.func49, Tryz.ntmps49
 go_upto_region 1 with fail
 change Code.wp _ _ _ _ x0
 clear_value x0
 have q0 := X.out.cell 0 rfl
 have q1 := X.out.cell 1 rfl
 cases xi with
 | false =>
  have c0 : Below x0.heap.size x0 (x0.alloc (.cells #[] 32)) := (Below.refl _ _).alloc (Nat.le_refl _) _
  have Bv := X.out.lt
  have O0 := OwnG.new x0 w.heap.size 5 (by omega) #[] 32 0 0 (Nat.le_refl _) (Nat.zero_le _) rfl
  have B1 := B.trans (c0.mono B.size)
  clear c0 X
  go_wp2_with fail
  go_ret
  exact ⟨_, rfl, ⟨fun _ => SV.nil, O0, fun i hi => by cases hi⟩, B1⟩
 | true =>
  cases xo with
  | true =>
   go_upto_region 5 with fail
   clear q0 q1
   have aF : Keeps (fun w' => Box w' w.heap.size 25 #[.bool true, .bool true, .slice xa xn xc] ∧ RdI (fun b => b < B0) w' ⟨false, false, none, 0, 0, xa, xn, xc, none, 0, 0⟩ (at1 xl) ∧ Below w.heap.size w w') := fun _ _ h b => ⟨h.1.after b, h.2.1.after b, h.2.2.trans (b.mono h.2.2.size)⟩
   refine aX (w := x0) [] (fun w' => Box w' w.heap.size 25 #[.bool true, .bool true, .slice xa xn xc] ∧ RdI (fun b => b < B0) w' ⟨false, false, none, 0, 0, xa, xn, xc, none, 0, 0⟩ (at1 xl) ∧ Below w.heap.size w w') rfl (aF _ _ ⟨X.out, de (HS.out.after B) HI.out, B⟩ (Below.refl _ _).drew) ?_
   refine ag 0 aF rfl (by kernel_rfl) (by kernel_rfl) (by kernel_rfl) (by kernel_rfl) rfl (fun _ _ _ _ h => h) (.string ⟨#[ch]⟩) (fun w' h => by simp [go_sem]) ?_
   simp only [Act.put, I2, I3, I4]
   refine ag 2 aF rfl (by kernel_rfl) (by kernel_rfl) (by kernel_rfl) (by kernel_rfl) rfl (fun _ _ _ _ h => h) (.pointer (some ⟨w.heap.size, 2, none⟩)) (fun w' h => by simp [go_sem]) ?_
   simp only [Act.put, I2, I3, I4]
   refine ag 3 aF rfl (by kernel_rfl) (by kernel_rfl) (by kernel_rfl) (by kernel_rfl) rfl (fun _ _ _ _ h => h) (.slice xa xn xc) (fun w' h => by simp [go_sem, h.1.cell 2 rfl]) ?_
   simp only [Act.put, I2, I3, I4]
   refine ag 4 aF rfl (by kernel_rfl) (by kernel_rfl) (by kernel_rfl) (by kernel_rfl) rfl (fun _ _ _ _ h => h) (.agg #[.bool false, .bool false, .slice none 0 0, .slice xa xn xc, .slice none 0 0]) (fun w' h => by simp [go_sem]) ?_
   simp only [Act.put, I2, I3, I4]
   refine aN 1 rfl (by kernel_rfl) (by kernel_rfl) rfl ?_
   intro z1 b1 s1
   refine aT 47 #[.string ⟨#[ch]⟩] (by simp [go_sem]) _ (bA (fun b => w.heap.size + 1 ≤ b) ⟨#[ch]⟩ (by show 1 ≤ 140737488355328; omega) z1 (fun b hb => by have h1 := s1.1.lt; show w.heap.size + 1 ≤ b; omega)) ?_
   rintro e z2 ⟨vA, rfl, rA, c2⟩
   refine ⟨_, rfl, aF _ _ s1 c2, ?_⟩
   simp only [Act.put, I2, I3, I4]
   refine aN 5 rfl (by kernel_rfl) (by kernel_rfl) rfl ?_
   intro z5 b5 s5
   replace rA := (rA.after b5).there
   have RD := s5.2.1
   refine cp (.slice (some ⟨z5.heap.size, 0, none⟩) 2 2) (z5.alloc (.cells #[.bool vA.l, .bool vA.h, .slice vA.a1 vA.n1 vA.c1, .slice vA.a2 vA.n2 vA.c2, .slice vA.a3 vA.n3 vA.c3, .bool false, .bool false, .slice none 0 0, .slice xa xn xc, .slice none 0 0] 32)) (by simp [go_sem, SV.val]) ?_
   have c6 : Below z5.heap.size z5 (z5.alloc (.cells #[.bool vA.l, .bool vA.h, .slice vA.a1 vA.n1 vA.c1, .slice vA.a2 vA.n2 vA.c2, .slice vA.a3 vA.n3 vA.c3, .bool false, .bool false, .slice none 0 0, .slice xa xn xc, .slice none 0 0] 32)) := (Below.refl _ _).alloc (Nat.le_refl _) _
   have BD := s5.1.lt
   have o6 : OwnG (z5.alloc (.cells #[.bool vA.l, .bool vA.h, .slice vA.a1 vA.n1 vA.c1, .slice vA.a2 vA.n2 vA.c2, .slice vA.a3 vA.n3 vA.c3, .bool false, .bool false, .slice none 0 0, .slice xa xn xc, .slice none 0 0] 32)) w.heap.size 5 (.slice (some ⟨z5.heap.size, 0, none⟩) 2 2) 2 (newsK (fun i => if i = 0 then vA else ⟨false, false, none, 0, 0, xa, xn, xc, none, 0, 0⟩) 2) := by
    have := OwnG.new z5 w.heap.size 5 (by omega) #[.bool vA.l, .bool vA.h, .slice vA.a1 vA.n1 vA.c1, .slice vA.a2 vA.n2 vA.c2, .slice vA.a3 vA.n3 vA.c3, .bool false, .bool false, .slice none 0 0, .slice xa xn xc, .slice none 0 0] 32 2 2 (Nat.le_refl _) (by unfold maxLen; omega) rfl
    exact this
   refine ⟨aF _ _ s5 c6, ?_⟩
   simp only [Act.put, I2, I3, I4]
   refine bG 6 aF rfl (by kernel_rfl) (by kernel_rfl) (by kernel_rfl) (by kernel_rfl) rfl (fun _ _ _ _ h => h) (.slice (some ⟨z5.heap.size, 0, none⟩) 2 2) (fun w' => by simp [go_sem]) ?_
   simp only [Act.put, I2, I3, I4]
   refine eK (by kernel_rfl) ?_
   intro z7 b7 s7
   go_wp2_with fail
   go_ret
   exact ⟨_, rfl, ⟨(fun i => if i = 0 then vA else ⟨false, false, none, 0, 0, xa, xn, xc, none, 0, 0⟩), o6.after b7, fun i hi => match i, hi with | 0, _ => ((rA.after c6).after b7).mono (fun b hb => ⟨.inr (by have := hb.1; omega), fun e => by simp [Value.ownBlock] at e; have := hb.2; omega⟩) | 1, _ => ((RD.after c6).after b7).mono (fun b hb => ⟨.inl hb, fun e => by simp [Value.ownBlock] at e; have h9 : b < B0 := hb; omega⟩)⟩, s7.2.2⟩
  | false =>
   go_upto_region 5 with fail
   clear q0 q1
   have aF : Keeps (fun w' => Box w' w.heap.size 25 #[.bool true, .bool false, .slice xa xn xc] ∧ RdI (fun b => b < B0) w' ⟨false, false, none, 0, 0, xa, xn, xc, none, 0, 0⟩ (at1 xl) ∧ Below w.heap.size w w') := fun _ _ h b => ⟨h.1.after b, h.2.1.after b, h.2.2.trans (b.mono h.2.2.size)⟩
   refine aX (w := x0) [] (fun w' => Box w' w.heap.size 25 #[.bool true, .bool false, .slice xa xn xc] ∧ RdI (fun b => b < B0) w' ⟨false, false, none, 0, 0, xa, xn, xc, none, 0, 0⟩ (at1 xl) ∧ Below w.heap.size w w') rfl (aF _ _ ⟨X.out, de (HS.out.after B) HI.out, B⟩ (Below.refl _ _).drew) ?_
   refine ag 0 aF rfl (by kernel_rfl) (by kernel_rfl) (by kernel_rfl) (by kernel_rfl) rfl (fun _ _ _ _ h => h) (.string ⟨#[ch, 101]⟩) (fun w' h => by simp [go_sem, nj]) ?_
   simp only [Act.put, I2, I3, I4]
   refine ag 2 aF rfl (by kernel_rfl) (by kernel_rfl) (by kernel_rfl) (by kernel_rfl) rfl (fun _ _ _ _ h => h) (.pointer (some ⟨w.heap.size, 2, none⟩)) (fun w' h => by simp [go_sem]) ?_
   simp only [Act.put, I2, I3, I4]
   refine ag 3 aF rfl (by kernel_rfl) (by kernel_rfl) (by kernel_rfl) (by kernel_rfl) rfl (fun _ _ _ _ h => h) (.slice xa xn xc) (fun w' h => by simp [go_sem, h.1.cell 2 rfl]) ?_
   simp only [Act.put, I2, I3, I4]
   refine ag 4 aF rfl (by kernel_rfl) (by kernel_rfl) (by kernel_rfl) (by kernel_rfl) rfl (fun _ _ _ _ h => h) (.agg #[.bool false, .bool false, .slice none 0 0, .slice xa xn xc, .slice none 0 0]) (fun w' h => by simp [go_sem]) ?_
   simp only [Act.put, I2, I3, I4]
   refine aN 1 rfl (by kernel_rfl) (by kernel_rfl) rfl ?_
   intro z1 b1 s1
   refine aT 47 #[.string ⟨#[ch, 101]⟩] (by simp [go_sem]) _ (bA (fun b => w.heap.size + 1 ≤ b) ⟨#[ch, 101]⟩ (by show 2 ≤ 140737488355328; omega) z1 (fun b hb => by have h1 := s1.1.lt; show w.heap.size + 1 ≤ b; omega)) ?_
   rintro e z2 ⟨vA, rfl, rA, c2⟩
   refine ⟨_, rfl, aF _ _ s1 c2, ?_⟩
   simp only [Act.put, I2, I3, I4]
   refine aN 5 rfl (by kernel_rfl) (by kernel_rfl) rfl ?_
   intro z5 b5 s5
   replace rA := (rA.after b5).there
   have RD := s5.2.1
   refine cp (.slice (some ⟨z5.heap.size, 0, none⟩) 2 2) (z5.alloc (.cells #[.bool vA.l, .bool vA.h, .slice vA.a1 vA.n1 vA.c1, .slice vA.a2 vA.n2 vA.c2, .slice vA.a3 vA.n3 vA.c3, .bool false, .bool false, .slice none 0 0, .slice xa xn xc, .slice none 0 0] 32)) (by simp [go_sem, SV.val]) ?_
   have c6 : Below z5.heap.size z5 (z5.alloc (.cells #[.bool vA.l, .bool vA.h, .slice vA.a1 vA.n1 vA.c1, .slice vA.a2 vA.n2 vA.c2, .slice vA.a3 vA.n3 vA.c3, .bool false, .bool false, .slice none 0 0, .slice xa xn xc, .slice none 0 0] 32)) := (Below.refl _ _).alloc (Nat.le_refl _) _
   have BD := s5.1.lt
   have o6 : OwnG (z5.alloc (.cells #[.bool vA.l, .bool vA.h, .slice vA.a1 vA.n1 vA.c1, .slice vA.a2 vA.n2 vA.c2, .slice vA.a3 vA.n3 vA.c3, .bool false, .bool false, .slice none 0 0, .slice xa xn xc, .slice none 0 0] 32)) w.heap.size 5 (.slice (some ⟨z5.heap.size, 0, none⟩) 2 2) 2 (newsK (fun i => if i = 0 then vA else ⟨false, false, none, 0, 0, xa, xn, xc, none, 0, 0⟩) 2) := by
    have := OwnG.new z5 w.heap.size 5 (by omega) #[.bool vA.l, .bool vA.h, .slice vA.a1 vA.n1 vA.c1, .slice vA.a2 vA.n2 vA.c2, .slice vA.a3 vA.n3 vA.c3, .bool false, .bool false, .slice none 0 0, .slice xa xn xc, .slice none 0 0] 32 2 2 (Nat.le_refl _) (by unfold maxLen; omega) rfl
    exact this
   refine ⟨aF _ _ s5 c6, ?_⟩
   simp only [Act.put, I2, I3, I4]
   refine bG 6 aF rfl (by kernel_rfl) (by kernel_rfl) (by kernel_rfl) (by kernel_rfl) rfl (fun _ _ _ _ h => h) (.slice (some ⟨z5.heap.size, 0, none⟩) 2 2) (fun w' => by simp [go_sem]) ?_
   simp only [Act.put, I2, I3, I4]
   refine eK (by kernel_rfl) ?_
   intro z7 b7 s7
   go_wp2_with fail
   go_ret
   exact ⟨_, rfl, ⟨(fun i => if i = 0 then vA else ⟨false, false, none, 0, 0, xa, xn, xc, none, 0, 0⟩), o6.after b7, fun i hi => match i, hi with | 0, _ => ((rA.after c6).after b7).mono (fun b hb => ⟨.inr (by have := hb.1; omega), fun e => by simp [Value.ownBlock] at e; have := hb.2; omega⟩) | 1, _ => ((RD.after c6).after b7).mono (fun b hb => ⟨.inl hb, fun e => by simp [Value.ownBlock] at e; have h9 : b < B0 := hb; omega⟩)⟩, s7.2.2⟩
theorem lS {da : List UInt8} {ks : List Tg} {r : Rg} (v : TV) (B0 : Nat) (w : World) (qd : B0 ≤ w.heap.size) (hr : RdT (fun b => b < B0) w v (.mk 2 da ks r))  :
  Calls Tryz.prog 26 #[v.val] w (ValI (fun b => b < B0 ∨ w.heap.size ≤ b) (at1 da) w) := by
 obtain ⟨i1, i2, i3, _⟩ := hr.inb
 have vm := I5 i1
 have pe := I5 i2
 have vB := I5 i3
 clear i1 i2 i3
 obtain ⟨⟨cH, ho, cK, dv, dx, dw, fJ, fF⟩, an, hsl, cf, hn, K, ah, hk⟩ := hr.parts
 obtain ⟨ay, aw, ap, av, aA, aS, az, vo, am, ak, aE, aB, aD, ar, aq, aI, aC, aH⟩ := v
 obtain ⟨ro, ⟨li, lo, ll⟩, ⟨hi, mN, hl⟩⟩ := r
 dsimp only [Tg.kd, Tg.r, Tg.da, Tg.ks] at cH ho cK dv dx dw fJ fF an hsl cf hn ah hk
 obtain rfl : ay = 2 := cH
 subst ho cK dv dx dw hn
 have fL := I5 an
 have ke := I5 hsl
 have kf := I5 cf
 have HR := I5 ah
 have HK := I5 hk
 have ep := I5 an.1
 have kF := I5 hsl.1
 have kG := I5 cf.1
 have cF := Nat.le_trans an.2.1 an.2.2.1
 have cE := Nat.le_trans ah.1 ah.2.1
 unfold maxLen at cF cE
 clear an hsl cf ah hk hr
 dsimp only at vm pe vB
 let x0 := ((w.alloc (.cells #[.int .u8 2, .slice aw ap av, .slice aA ks.length az, .int .u8 vo, .bool am, .bool ak, .slice aE aB aD, .bool ar, .bool aq, .slice aI aC aH] 29)).alloc (.cells #[.bool false, .bool false, .slice none 0 0, .slice none 0 0, .slice none 0 0] 32))
 have B : Below w.heap.size w x0 := ((Below.refl _ _).alloc (Nat.le_refl _) _).alloc (by simp [x0, x0]) _
 have X : Hid (Box x0 w.heap.size 29 #[.int .u8 2, .slice aw ap av, .slice aA ks.length az, .int .u8 vo, .bool am, .bool ak, .slice aE aB aD, .bool ar, .bool aq, .slice aI aC aH]) := I5 ((Box.new _ _ _).alloc _)
 have Y : Hid (Box x0 (w.heap.size + 1) 32 #[.bool false, .bool false, .slice none 0 0, .slice none 0 0, .slice none 0 0]) := I5 (by
  have := Box.new (w.alloc (.cells #[.int .u8 2, .slice aw ap av, .slice aA ks.length az, .int .u8 vo, .bool am, .bool ak, .slice aE aB aD, .bool ar, .bool aq, .slice aI aC aH] 29)) 32 #[.bool false, .bool false, .slice none 0 0, .slice none 0 0, .slice none 0 0]
  simpa [x0] using this)
 show Calls _ _ #[.agg #[.int .u8 2, .slice aw ap av, .slice aA ks.length az, .int .u8 vo, .bool am, .bool ak, .slice aE aB aD, .bool ar, .bool aq, .slice aI aC aH]] _ _
 go_enter Tryz.func26, Tryz.ntmps26
 go_upto_region 1 with fail
 change Code.wp _ _ _ _ x0
 clear_value x0
 have q0 := X.out.cell 0 rfl
 have zD := Y.out.lt
 go_wp2_with fail
 refine (bA (fun b => b < B0 ∨ w.heap.size + 2 ≤ b) ⟨#[42]⟩ (by decide) x0 (fun b hb => .inr (by omega))).mono ?_
 rintro e x1 ⟨⟨sl, sh, cv, cq, cr, co, ci, cn, cu, cI, cj⟩, rfl, rS, bx1⟩
 have RS := I5 rS
 clear rS q0
 simp only [SV.val]
 replace X := I5 (X.out.after bx1)
 replace Y := I5 (Y.out.after bx1)
 replace B := B.trans (bx1.mono B.size)
 clear bx1
 go_upto_region 2 with (refine ac (cells := #[.bool sl, .bool sh, .slice cv cq cr, .slice co ci cn, .slice cu cI cj]) rfl 32 _ _ rfl (Box.new _ _ _) (by rfl) (by rfl) rfl (by kernel_rfl) (by simp [Value.oneCell']) ?_; intro u9 X9 st9)
 have s8 := Y.out.lt
 have bs2 : Below x1.heap.size x1 u9 := st9.below x1.heap.size x1 (Nat.le_refl _) ((Below.refl _ _).alloc (Nat.le_refl _) _)
 have Z := I5 X9
 replace X := I5 (X.out.after bs2)
 replace Y := I5 (Y.out.after bs2)
 replace RS := I5 (RS.out.after bs2)
 replace B := B.trans (bs2.mono B.size)
 clear bs2 st9 X9
 generalize u9 = x2 at *
 have c9 : Below x2.heap.size x2 (x2.alloc (.cells #[] 32)) := (Below.refl _ _).alloc (Nat.le_refl _) _
 have xD := Z.out.lt
 have O := I5 (OwnG.new x2 (w.heap.size + 2) 5 (by have := Y.out.lt; omega) #[] 32 0 0 (Nat.le_refl _) (Nat.zero_le _) rfl)
 generalize x1.heap.size = ys at *
 go_upto_region 3 with fail
 change Code.wp _ _ _ _ (x2.alloc (.cells #[] 32))
 replace X := I5 (X.out.after c9)
 replace Y := I5 (Y.out.after c9)
 replace RS := I5 (RS.out.after c9)
 replace Z := I5 (Z.out.after c9)
 replace B := B.trans (c9.mono B.size)
 have CU : x2.heap.size < (x2.alloc (.cells #[] 32)).heap.size := by simp
 have BW : w.heap.size + 1 < x2.heap.size := by omega
 clear c9
 generalize (x2.alloc (.cells #[] 32)) = xe at *
 have q0 := X.out.cell 0 rfl
 generalize x2.heap.size = ye at *
 have q1 := X.out.cell 1 rfl
 have RA : Hid (RdI (fun b => b < B0 ∨ w.heap.size + 2 ≤ b) xe ⟨false, false, none, 0, 0, aw, ap, av, none, 0, 0⟩ (at1 da)) := I5 (de (fL.out.after B) (vm.out.mono (fun b hb => .inl hb)))
 go_wp2_with (refine ac (cells := #[.bool false, .bool false, .slice none 0 0, .slice aw ap av, .slice none 0 0]) rfl 32 _ _ rfl Y.out (by rfl) (by rfl) rfl (by kernel_rfl) (by simp [Value.oneCell']) ?_; intro u9 X9 st9)
 have B9 := st9.below w.heap.size w (by omega) B
 have R9 : RdI (fun b => b < B0 ∨ w.heap.size ≤ b) u9 ⟨false, false, none, 0, 0, aw, ap, av, none, 0, 0⟩ (at1 da) := (RA.out.keep (w' := u9) (fun b hb => st9.other b (by have h1 : b < B0 ∨ w.heap.size + 2 ≤ b := hb; omega))).mono (fun b hb => by have h1 : b < B0 ∨ w.heap.size + 2 ≤ b := hb; show b < B0 ∨ w.heap.size ≤ b; omega)
 exact bodyPost_ret (v := .agg #[.bool false, .bool false, .slice none 0 0, .slice aw ap av, .slice none 0 0]) (ae rfl _ _ (by rfl) X9 Tryz.underlying32 rfl (by kernel_rfl)) rfl ⟨⟨false, false, none, 0, 0, aw, ap, av, none, 0, 0⟩, rfl, R9, B9⟩
theorem lT {da : List UInt8} {ks : List Tg} {r : Rg} (v : TV) (B0 : Nat) (w : World) (qd : B0 ≤ w.heap.size) (hr : RdT (fun b => b < B0) w v (.mk 1 da ks r))  :
  Calls Tryz.prog 26 #[v.val] w (ValI (fun b => b < B0 ∨ w.heap.size ≤ b) (li [at1 starL]) w) := by
 obtain ⟨i1, i2, i3, _⟩ := hr.inb
 have vm := I5 i1
 have pe := I5 i2
 have vB := I5 i3
 clear i1 i2 i3
 obtain ⟨⟨cH, ho, cK, dv, dx, dw, fJ, fF⟩, an, hsl, cf, hn, K, ah, hk⟩ := hr.parts
 obtain ⟨ay, aw, ap, av, aA, aS, az, vo, am, ak, aE, aB, aD, ar, aq, aI, aC, aH⟩ := v
 obtain ⟨ro, ⟨li, lo, ll⟩, ⟨hi, mN, hl⟩⟩ := r
 dsimp only [Tg.kd, Tg.r, Tg.da, Tg.ks] at cH ho cK dv dx dw fJ fF an hsl cf hn ah hk
 obtain rfl : ay = 1 := cH
 subst ho cK dv dx dw hn
 have fL := I5 an
 have ke := I5 hsl
 have kf := I5 cf
 have HR := I5 ah
 have HK := I5 hk
 have ep := I5 an.1
 have kF := I5 hsl.1
 have kG := I5 cf.1
 have cF := Nat.le_trans an.2.1 an.2.2.1
 have cE := Nat.le_trans ah.1 ah.2.1
 unfold maxLen at cF cE
 clear an hsl cf ah hk hr
 dsimp only at vm pe vB
 let x0 := ((w.alloc (.cells #[.int .u8 1, .slice aw ap av, .slice aA ks.length az, .int .u8 vo, .bool am, .bool ak, .slice aE aB aD, .bool ar, .bool aq, .slice aI aC aH] 29)).alloc (.cells #[.bool false, .bool false, .slice none 0 0, .slice none 0 0, .slice none 0 0] 32))
 have B : Below w.heap.size w x0 := ((Below.refl _ _).alloc (Nat.le_refl _) _).alloc (by simp [x0, x0]) _
 have X : Hid (Box x0 w.heap.size 29 #[.int .u8 1, .slice aw ap av, .slice aA ks.length az, .int .u8 vo, .bool am, .bool ak, .slice aE aB aD, .bool ar, .bool aq, .slice aI aC aH]) := I5 ((Box.new _ _ _).alloc _)
 have Y : Hid (Box x0 (w.heap.size + 1) 32 #[.bool false, .bool false, .slice none 0 0, .slice none 0 0, .slice none 0 0]) := I5 (by
  have := Box.new (w.alloc (.cells #[.int .u8 1, .slice aw ap av, .slice aA ks.length az, .int .u8 vo, .bool am, .bool ak, .slice aE aB aD, .bool ar, .bool aq, .slice aI aC aH] 29)) 32 #[.bool false, .bool false, .slice none 0 0, .slice none 0 0, .slice none 0 0]
  simpa [x0] using this)
 show Calls _ _ #[.agg #[.int .u8 1, .slice aw ap av, .slice aA ks.length az, .int .u8 vo, .bool am, .bool ak, .slice aE aB aD, .bool ar, .bool aq, .slice aI aC aH]] _ _
 go_enter Tryz.func26, Tryz.ntmps26
 go_upto_region 1 with fail
 change Code.wp _ _ _ _ x0
 clear_value x0
 have q0 := X.out.cell 0 rfl
 have zD := Y.out.lt
 go_wp2_with fail
 refine (bA (fun b => b < B0 ∨ w.heap.size + 2 ≤ b) ⟨#[42]⟩ (by decide) x0 (fun b hb => .inr (by omega))).mono ?_
 rintro e x1 ⟨⟨sl, sh, cv, cq, cr, co, ci, cn, cu, cI, cj⟩, rfl, rS, bx1⟩
 have RS := I5 rS
 clear rS q0
 simp only [SV.val]
 replace X := I5 (X.out.after bx1)
 replace Y := I5 (Y.out.after bx1)
 replace B := B.trans (bx1.mono B.size)
 clear bx1
 go_upto_region 2 with (refine ac (cells := #[.bool sl, .bool sh, .slice cv cq cr, .slice co ci cn, .slice cu cI cj]) rfl 32 _ _ rfl (Box.new _ _ _) (by rfl) (by rfl) rfl (by kernel_rfl) (by simp [Value.oneCell']) ?_; intro u9 X9 st9)
 have s8 := Y.out.lt
 have bs2 : Below x1.heap.size x1 u9 := st9.below x1.heap.size x1 (Nat.le_refl _) ((Below.refl _ _).alloc (Nat.le_refl _) _)
 have Z := I5 X9
 replace X := I5 (X.out.after bs2)
 replace Y := I5 (Y.out.after bs2)
 replace RS := I5 (RS.out.after bs2)
 replace B := B.trans (bs2.mono B.size)
 clear bs2 st9 X9
 generalize u9 = x2 at *
 have c9 : Below x2.heap.size x2 (x2.alloc (.cells #[] 32)) := (Below.refl _ _).alloc (Nat.le_refl _) _
 have xD := Z.out.lt
 have O := I5 (OwnG.new x2 (w.heap.size + 2) 5 (by have := Y.out.lt; omega) #[] 32 0 0 (Nat.le_refl _) (Nat.zero_le _) rfl)
 generalize x1.heap.size = ys at *
 go_upto_region 3 with fail
 change Code.wp _ _ _ _ (x2.alloc (.cells #[] 32))
 replace X := I5 (X.out.after c9)
 replace Y := I5 (Y.out.after c9)
 replace RS := I5 (RS.out.after c9)
 replace Z := I5 (Z.out.after c9)
 replace B := B.trans (c9.mono B.size)
 have CU : x2.heap.size < (x2.alloc (.cells #[] 32)).heap.size := by simp
 have BW : w.heap.size + 1 < x2.heap.size := by omega
 clear c9
 generalize (x2.alloc (.cells #[] 32)) = xe at *
 have q0 := X.out.cell 0 rfl
 generalize x2.heap.size = ye at *
 have c2 : Below xe.heap.size xe (xe.alloc (.cells #[.bool sl, .bool sh, .slice cv cq cr, .slice co ci cn, .slice cu cI cj] 32)) := (Below.refl _ _).alloc (Nat.le_refl _) _
 have rW := sB xe ⟨sl, sh, cv, cq, cr, co, ci, cn, cu, cI, cj⟩ 32
 have RL : Hid (RdI (fun b => b < B0 ∨ w.heap.size + 2 ≤ b) (xe.alloc (.cells #[.bool sl, .bool sh, .slice cv cq cr, .slice co ci cn, .slice cu cI cj] 32)) ⟨true, false, none, 0, 0, none, 0, 0, some ⟨xe.heap.size, 0, none⟩, 1, 1⟩ (li [at1 starL])) := I5 (gL rW (.inr fun b o s e => by cases e; show _ < B0 ∨ w.heap.size + 2 ≤ _; omega) rfl (fun i hi => match i, hi with | 0, _ => RS.out.after c2))
 have Y2 := I5 (Y.out.after c2)
 have mO := B.trans (c2.mono B.size)
 go_wp2_with first | (refine ab rfl 32 _ rfl Z.out (by rfl) Tryz.underlying32 rfl (by kernel_rfl) ?_) | (refine ac (cells := #[.bool true, .bool false, .slice none 0 0, .slice none 0 0, .slice (some ⟨xe.heap.size, 0, none⟩) 1 1]) rfl 32 _ _ rfl Y2.out (by rfl) (by rfl) rfl (by kernel_rfl) (by simp [Value.oneCell']) ?_; intro u9 X9 st9)
 have B := mO
 have B9 := st9.below w.heap.size w (by omega) B
 have R9 : RdI (fun b => b < B0 ∨ w.heap.size ≤ b) u9 ⟨true, false, none, 0, 0, none, 0, 0, some ⟨xe.heap.size, 0, none⟩, 1, 1⟩ (li [at1 starL]) := (RL.out.keep (w' := u9) (fun b hb => st9.other b (by have h1 : b < B0 ∨ w.heap.size + 2 ≤ b := hb; omega))).mono (fun b hb => by have h1 : b < B0 ∨ w.heap.size + 2 ≤ b := hb; show b < B0 ∨ w.heap.size ≤ b; omega)
 exact bodyPost_ret (v := .agg #[.bool true, .bool false, .slice none 0 0, .slice none 0 0, .slice (some ⟨xe.heap.size, 0, none⟩) 1 1]) (ae rfl _ _ (by rfl) X9 Tryz.underlying32 rfl (by kernel_rfl)) rfl ⟨⟨true, false, none, 0, 0, none, 0, 0, some ⟨xe.heap.size, 0, none⟩, 1, 1⟩, rfl, R9, B9⟩
theorem lP {da : List UInt8} {ks : List Tg} {r : Rg} (v : TV) (B0 : Nat) (w : World) (qd : B0 ≤ w.heap.size) (hr : RdT (fun b => b < B0) w v (.mk 5 da ks r))  :
  Calls Tryz.prog 26 #[v.val] w (ValI (fun b => b < B0 ∨ w.heap.size ≤ b) (li [at1 starL, at1 preL, at1 da]) w) := by
 obtain ⟨i1, i2, i3, _⟩ := hr.inb
 have vm := I5 i1
 have pe := I5 i2
 have vB := I5 i3
 clear i1 i2 i3
 obtain ⟨⟨cH, ho, cK, dv, dx, dw, fJ, fF⟩, an, hsl, cf, hn, K, ah, hk⟩ := hr.parts
 obtain ⟨ay, aw, ap, av, aA, aS, az, vo, am, ak, aE, aB, aD, ar, aq, aI, aC, aH⟩ := v
 obtain ⟨ro, ⟨li, lo, ll⟩, ⟨hi, mN, hl⟩⟩ := r
 dsimp only [Tg.kd, Tg.r, Tg.da, Tg.ks] at cH ho cK dv dx dw fJ fF an hsl cf hn ah hk
 obtain rfl : ay = 5 := cH
 subst ho cK dv dx dw hn
 have fL := I5 an
 have ke := I5 hsl
 have kf := I5 cf
 have HR := I5 ah
 have HK := I5 hk
 have ep := I5 an.1
 have kF := I5 hsl.1
 have kG := I5 cf.1
 have cF := Nat.le_trans an.2.1 an.2.2.1
 have cE := Nat.le_trans ah.1 ah.2.1
 unfold maxLen at cF cE
 clear an hsl cf ah hk hr
 dsimp only at vm pe vB
 let x0 := ((w.alloc (.cells #[.int .u8 5, .slice aw ap av, .slice aA ks.length az, .int .u8 vo, .bool am, .bool ak, .slice aE aB aD, .bool ar, .bool aq, .slice aI aC aH] 29)).alloc (.cells #[.bool false, .bool false, .slice none 0 0, .slice none 0 0, .slice none 0 0] 32))
 have B : Below w.heap.size w x0 := ((Below.refl _ _).alloc (Nat.le_refl _) _).alloc (by simp [x0, x0]) _
 have X : Hid (Box x0 w.heap.size 29 #[.int .u8 5, .slice aw ap av, .slice aA ks.length az, .int .u8 vo, .bool am, .bool ak, .slice aE aB aD, .bool ar, .bool aq, .slice aI aC aH]) := I5 ((Box.new _ _ _).alloc _)
 have Y : Hid (Box x0 (w.heap.size + 1) 32 #[.bool false, .bool false, .slice none 0 0, .slice none 0 0, .slice none 0 0]) := I5 (by
  have := Box.new (w.alloc (.cells #[.int .u8 5, .slice aw ap av, .slice aA ks.length az, .int .u8 vo, .bool am, .bool ak, .slice aE aB aD, .bool ar, .bool aq, .slice aI aC aH] 29)) 32 #[.bool false, .bool false, .slice none 0 0, .slice none 0 0, .slice none 0 0]
  simpa [x0] using this)
 show Calls _ _ #[.agg #[.int .u8 5, .slice aw ap av, .slice aA ks.length az, .int .u8 vo, .bool am, .bool ak, .slice aE aB aD, .bool ar, .bool aq, .slice aI aC aH]] _ _
 go_enter Tryz.func26, Tryz.ntmps26
 go_upto_region 1 with fail
 change Code.wp _ _ _ _ x0
 clear_value x0
 have q0 := X.out.cell 0 rfl
 have zD := Y.out.lt
 go_wp2_with fail
 refine (bA (fun b => b < B0 ∨ w.heap.size + 2 ≤ b) ⟨#[42]⟩ (by decide) x0 (fun b hb => .inr (by omega))).mono ?_
 rintro e x1 ⟨⟨sl, sh, cv, cq, cr, co, ci, cn, cu, cI, cj⟩, rfl, rS, bx1⟩
 have RS := I5 rS
 clear rS q0
 simp only [SV.val]
 replace X := I5 (X.out.after bx1)
 replace Y := I5 (Y.out.after bx1)
 replace B := B.trans (bx1.mono B.size)
 clear bx1
 go_upto_region 2 with (refine ac (cells := #[.bool sl, .bool sh, .slice cv cq cr, .slice co ci cn, .slice cu cI cj]) rfl 32 _ _ rfl (Box.new _ _ _) (by rfl) (by rfl) rfl (by kernel_rfl) (by simp [Value.oneCell']) ?_; intro u9 X9 st9)
 have s8 := Y.out.lt
 have bs2 : Below x1.heap.size x1 u9 := st9.below x1.heap.size x1 (Nat.le_refl _) ((Below.refl _ _).alloc (Nat.le_refl _) _)
 have Z := I5 X9
 replace X := I5 (X.out.after bs2)
 replace Y := I5 (Y.out.after bs2)
 replace RS := I5 (RS.out.after bs2)
 replace B := B.trans (bs2.mono B.size)
 clear bs2 st9 X9
 generalize u9 = x2 at *
 have c9 : Below x2.heap.size x2 (x2.alloc (.cells #[] 32)) := (Below.refl _ _).alloc (Nat.le_refl _) _
 have xD := Z.out.lt
 have O := I5 (OwnG.new x2 (w.heap.size + 2) 5 (by have := Y.out.lt; omega) #[] 32 0 0 (Nat.le_refl _) (Nat.zero_le _) rfl)
 generalize x1.heap.size = ys at *
 go_upto_region 3 with fail
 change Code.wp _ _ _ _ (x2.alloc (.cells #[] 32))
 replace X := I5 (X.out.after c9)
 replace Y := I5 (Y.out.after c9)
 replace RS := I5 (RS.out.after c9)
 replace Z := I5 (Z.out.after c9)
 replace B := B.trans (c9.mono B.size)
 have CU : x2.heap.size < (x2.alloc (.cells #[] 32)).heap.size := by simp
 have BW : w.heap.size + 1 < x2.heap.size := by omega
 clear c9
 generalize (x2.alloc (.cells #[] 32)) = xe at *
 have q0 := X.out.cell 0 rfl
 generalize x2.heap.size = ye at *
 go_upto_region 11 with fail
 clear q0 O
 have aF : Keeps (fun w' => (Box w' w.heap.size 29 #[.int .u8 5, .slice aw ap av, .slice aA ks.length az, .int .u8 vo, .bool am, .bool ak, .slice aE aB aD, .bool ar, .bool aq, .slice aI aC aH] ∧ Box w' ys 32 #[.bool sl, .bool sh, .slice cv cq cr, .slice co ci cn, .slice cu cI cj] ∧ RdI (fun b => b < B0 ∨ w.heap.size + 2 ≤ b) w' ⟨sl, sh, cv, cq, cr, co, ci, cn, cu, cI, cj⟩ (at1 starL) ∧ RdI (fun b => b < B0 ∨ w.heap.size + 2 ≤ b) w' (⟨false, false, none, 0, 0, aw, ap, av, none, 0, 0⟩ : SV) (at1 da)) ∧ Box w' (w.heap.size + 1) 32 #[.bool false, .bool false, .slice none 0 0, .slice none 0 0, .slice none 0 0] ∧ Below w.heap.size w w') := fun _ _ h b => ⟨⟨h.1.1.after b, h.1.2.1.after b, h.1.2.2.1.after b, h.1.2.2.2.after b⟩, h.2.1.after b, h.2.2.trans (b.mono h.2.2.size)⟩
 refine aX (w := xe) [7] (fun w' => (Box w' w.heap.size 29 #[.int .u8 5, .slice aw ap av, .slice aA ks.length az, .int .u8 vo, .bool am, .bool ak, .slice aE aB aD, .bool ar, .bool aq, .slice aI aC aH] ∧ Box w' ys 32 #[.bool sl, .bool sh, .slice cv cq cr, .slice co ci cn, .slice cu cI cj] ∧ RdI (fun b => b < B0 ∨ w.heap.size + 2 ≤ b) w' ⟨sl, sh, cv, cq, cr, co, ci, cn, cu, cI, cj⟩ (at1 starL) ∧ RdI (fun b => b < B0 ∨ w.heap.size + 2 ≤ b) w' (⟨false, false, none, 0, 0, aw, ap, av, none, 0, 0⟩ : SV) (at1 da)) ∧ Box w' (w.heap.size + 1) 32 #[.bool false, .bool false, .slice none 0 0, .slice none 0 0, .slice none 0 0] ∧ Below w.heap.size w w') rfl (aF _ _ ⟨⟨X.out, Z.out, RS.out, de (fL.out.after B) (vm.out.mono (fun b hb => .inl hb))⟩, Y.out, B⟩ (Below.refl _ _).drew) ?_
 refine ag 0 aF rfl (by kernel_rfl) (by kernel_rfl) (by kernel_rfl) (by kernel_rfl) rfl (fun _ _ _ _ h => h) (.agg #[.bool sl, .bool sh, .slice cv cq cr, .slice co ci cn, .slice cu cI cj]) (fun w' h => ds rfl h.1.2.1 (by rfl) Tryz.underlying32 rfl (by kernel_rfl)) ?_
 simp only [Act.put, I2, I3, I4]
 refine ag 2 aF rfl (by kernel_rfl) (by kernel_rfl) (by kernel_rfl) (by kernel_rfl) rfl (fun _ _ _ _ h => h) (.pointer (some ⟨w.heap.size, 1, none⟩)) (fun w' h => by simp [go_sem]) ?_
 simp only [Act.put, I2, I3, I4]
 refine ag 3 aF rfl (by kernel_rfl) (by kernel_rfl) (by kernel_rfl) (by kernel_rfl) rfl (fun _ _ _ _ h => h) (.slice aw ap av) (fun w' h => by simp [go_sem, h.1.1.cell 1 rfl]) ?_
 simp only [Act.put, I2, I3, I4]
 refine ag 4 aF rfl (by kernel_rfl) (by kernel_rfl) (by kernel_rfl) (by kernel_rfl) rfl (fun _ _ _ _ h => h) (.agg #[.bool false, .bool false, .slice none 0 0, .slice aw ap av, .slice none 0 0]) (fun w' h => by simp [go_sem]) ?_
 simp only [Act.put, I2, I3, I4]
 refine aN 1 rfl (by kernel_rfl) (by kernel_rfl) rfl ?_
 intro z1 ez1 sz1
 have lz1 := sz1.2.1.lt
 refine aT 47 #[.string ⟨#[112, 114, 101, 102, 105, 120]⟩] (by simp [go_sem]) _ (bA (fun b => b < B0 ∨ w.heap.size + 2 ≤ b) ⟨#[112, 114, 101, 102, 105, 120]⟩ (by decide) z1 (fun b hb => .inr (by omega))) ?_
 rintro e z2 ⟨vD, rfl, rD, cz2⟩
 refine ⟨_, rfl, aF _ _ sz1 cz2, ?_⟩
 simp only [Act.put, I2, I3, I4]
 refine aN 5 rfl (by kernel_rfl) (by kernel_rfl) rfl ?_
 intro z3 ez3 sz3
 have lz3 := sz3.2.1.lt
 replace rD := rD.after ez3
 refine cp (.slice (some ⟨z3.heap.size, 0, none⟩) 3 3) (z3.alloc (.cells #[.bool sl, .bool sh, .slice cv cq cr, .slice co ci cn, .slice cu cI cj, .bool vD.l, .bool vD.h, .slice vD.a1 vD.n1 vD.c1, .slice vD.a2 vD.n2 vD.c2, .slice vD.a3 vD.n3 vD.c3, .bool false, .bool false, .slice none 0 0, .slice aw ap av, .slice none 0 0] 32)) (by simp [go_sem, SV.val]) ?_
 have c9 : Below z3.heap.size z3 (z3.alloc (.cells #[.bool sl, .bool sh, .slice cv cq cr, .slice co ci cn, .slice cu cI cj, .bool vD.l, .bool vD.h, .slice vD.a1 vD.n1 vD.c1, .slice vD.a2 vD.n2 vD.c2, .slice vD.a3 vD.n3 vD.c3, .bool false, .bool false, .slice none 0 0, .slice aw ap av, .slice none 0 0] 32)) := (Below.refl _ _).alloc (Nat.le_refl _) _
 have rW := nt z3 (⟨sl, sh, cv, cq, cr, co, ci, cn, cu, cI, cj⟩ : SV) vD (⟨false, false, none, 0, 0, aw, ap, av, none, 0, 0⟩ : SV) 32
 have rL : RdI (fun b => b < B0 ∨ w.heap.size + 2 ≤ b) (z3.alloc (.cells #[.bool sl, .bool sh, .slice cv cq cr, .slice co ci cn, .slice cu cI cj, .bool vD.l, .bool vD.h, .slice vD.a1 vD.n1 vD.c1, .slice vD.a2 vD.n2 vD.c2, .slice vD.a3 vD.n3 vD.c3, .bool false, .bool false, .slice none 0 0, .slice aw ap av, .slice none 0 0] 32)) ⟨true, false, none, 0, 0, none, 0, 0, some ⟨z3.heap.size, 0, none⟩, 3, 3⟩ (li [at1 starL, at1 preL, at1 da]) := gL rW (.inr fun b o s e => by cases e; show _ < B0 ∨ w.heap.size + 2 ≤ _; omega) rfl (fun i hi => match i, hi with | 0, _ => sz3.1.2.2.1.after c9 | 1, _ => rD.after c9 | 2, _ => sz3.1.2.2.2.after c9)
 refine ⟨aF _ _ sz3 c9, ?_⟩
 simp only [Act.put, I2, I3, I4]
 generalize z3.heap.size = yr at *
 generalize (z3.alloc (.cells #[.bool sl, .bool sh, .slice cv cq cr, .slice co ci cn, .slice cu cI cj, .bool vD.l, .bool vD.h, .slice vD.a1 vD.n1 vD.c1, .slice vD.a2 vD.n2 vD.c2, .slice vD.a3 vD.n3 vD.c3, .bool false, .bool false, .slice none 0 0, .slice aw ap av, .slice none 0 0] 32)) = y9 at *
 refine bG 6 aF rfl (by kernel_rfl) (by kernel_rfl) (by kernel_rfl) (by kernel_rfl) rfl (fun _ _ _ _ h => h) (.agg #[.bool true, .bool false, .slice none 0 0, .slice none 0 0, .slice (some ⟨yr, 0, none⟩) 3 3]) (fun w' => by simp [go_sem]) ?_
 simp only [Act.put, I2, I3, I4]
 refine dr 7 rfl (by kernel_rfl) (by kernel_rfl) rfl ?_
 intro zz bz sz
 replace rL := rL.after bz
 refine dW 32 _ _ rfl sz.2.1 (by rfl) (by rfl) rfl (by kernel_rfl) (by simp [Value.oneCell']) (cells := #[.bool true, .bool false, .slice none 0 0, .slice none 0 0, .slice (some ⟨yr, 0, none⟩) 3 3]) ?_
 intro zx Xx stx
 have RLx := rL.keep (w' := zx) (fun b hb => stx.other b (by have h1 : b < B0 ∨ w.heap.size + 2 ≤ b := hb; omega))
 have Bx := stx.below w.heap.size w (by omega) sz.2.2
 simp only [Act.put, I2, I3, I4]
 refine cB rfl (fun w9 b9 _ => ?_)
 have B9 := Bx.trans (b9.mono Bx.size)
 have X9 := Xx.after b9
 have R9 := RLx.after b9
 go_wp2_with fail
 exact bodyPost_ret (v := .agg #[.bool true, .bool false, .slice none 0 0, .slice none 0 0, .slice (some ⟨yr, 0, none⟩) 3 3]) (ae rfl _ _ (by rfl) X9 Tryz.underlying32 rfl (by kernel_rfl)) rfl ⟨⟨true, false, none, 0, 0, none, 0, 0, some ⟨yr, 0, none⟩, 3, 3⟩, rfl, R9.mono (fun b hb => by have h1 : b < B0 ∨ w.heap.size + 2 ≤ b := hb; show b < B0 ∨ w.heap.size ≤ b; omega), B9⟩
theorem lR {kd : Nat} {da : List UInt8} {ks : List Tg} {r : Rg} (v : TV) (B0 : Nat) (w : World) (qd : B0 ≤ w.heap.size) (hr : RdT (fun b => b < B0) w v (.mk kd da ks r)) (Ge : kd ≠ 1 ∧ kd ≠ 2 ∧ kd ≠ 4 ∧ kd ≠ 5 ∧ kd ≠ 6) (ih : ∀ x ∈ ks, ∀ (v : TV) (w : World), B0 ≤ w.heap.size → RdT (fun b => b < B0) w v x → Calls Tryz.prog 26 #[v.val] w (ValI (fun b => b < B0 ∨ w.heap.size ≤ b) x.value w)) (fy : ks.length ≤ 700) :
    Calls Tryz.prog 26 #[v.val] w (ValI (fun b => b < B0 ∨ w.heap.size ≤ b) (li (([] : List Sx) ++ Tg.valueL ks)) w) := by
  obtain ⟨i1, i2, i3, _⟩ := hr.inb
  have vm := I5 i1
  have pe := I5 i2
  have vB := I5 i3
  clear i1 i2 i3
  obtain ⟨⟨cH, ho, cK, dv, dx, dw, fJ, fF⟩, an, hsl, cf, hn, K, ah, hk⟩ := hr.parts
  obtain ⟨ay, aw, ap, av, aA, aS, az, vo, am, ak, aE, aB, aD, ar, aq, aI, aC, aH⟩ := v
  obtain ⟨ro, ⟨li, lo, ll⟩, ⟨hi, mN, hl⟩⟩ := r
  dsimp only [Tg.kd, Tg.r, Tg.da, Tg.ks] at cH ho cK dv dx dw fJ fF an hsl cf hn ah hk
  obtain rfl : ay = kd := cH
  have t1 : ((ay : Int) == 1) = false := beq_eq_false_iff_ne.mpr (by omega)
  have t2 : ((ay : Int) == 2) = false := beq_eq_false_iff_ne.mpr (by omega)
  have t4 : ((ay : Int) == 4) = false := beq_eq_false_iff_ne.mpr (by omega)
  have t5 : ((ay : Int) == 5) = false := beq_eq_false_iff_ne.mpr (by omega)
  have t6 : ((ay : Int) == 6) = false := beq_eq_false_iff_ne.mpr (by omega)
  clear Ge
  subst ho cK dv dx dw hn
  have fL := I5 an
  have ke := I5 hsl
  have kf := I5 cf
  have HR := I5 ah
  have HK := I5 hk
  have ep := I5 an.1
  have kF := I5 hsl.1
  have kG := I5 cf.1
  have cF := Nat.le_trans an.2.1 an.2.2.1
  have cE := Nat.le_trans ah.1 ah.2.1
  unfold maxLen at cF cE
  clear an hsl cf ah hk hr
  dsimp only at vm pe vB
  have IH := I5 ih
  clear ih
  let x0 := ((w.alloc (.cells #[.int .u8 ay, .slice aw ap av, .slice aA ks.length az, .int .u8 vo, .bool am, .bool ak, .slice aE aB aD, .bool ar, .bool aq, .slice aI aC aH] 29)).alloc (.cells #[.bool false, .bool false, .slice none 0 0, .slice none 0 0, .slice none 0 0] 32))
  have B : Below w.heap.size w x0 := ((Below.refl _ _).alloc (Nat.le_refl _) _).alloc (by simp [x0, x0]) _
  have X : Hid (Box x0 w.heap.size 29 #[.int .u8 ay, .slice aw ap av, .slice aA ks.length az, .int .u8 vo, .bool am, .bool ak, .slice aE aB aD, .bool ar, .bool aq, .slice aI aC aH]) := I5 ((Box.new _ _ _).alloc _)
  have Y : Hid (Box x0 (w.heap.size + 1) 32 #[.bool false, .bool false, .slice none 0 0, .slice none 0 0, .slice none 0 0]) := I5 (by
    have := Box.new (w.alloc (.cells #[.int .u8 ay, .slice aw ap av, .slice aA ks.length az, .int .u8 vo, .bool am, .bool ak, .slice aE aB aD, .bool ar, .bool aq, .slice aI aC aH] 29)) 32 #[.bool false, .bool false, .slice none 0 0, .slice none 0 0, .slice none 0 0]
    simpa [x0] using this)
  show Calls _ _ #[.agg #[.int .u8 ay, .slice aw ap av, .slice aA ks.length az, .int .u8 vo, .bool am, .bool ak, .slice aE aB aD, .bool ar, .bool aq, .slice aI aC aH]] _ _
  go_enter Tryz.func26, Tryz.ntmps26
  go_upto_region 1 with fail
  change Code.wp _ _ _ _ x0
  clear_value x0
  have q0 := X.out.cell 0 rfl
  have zD := Y.out.lt
  go_wp2_with fail
  refine (bA (fun b => b < B0 ∨ w.heap.size + 2 ≤ b) ⟨#[42]⟩ (by decide) x0 (fun b hb => .inr (by omega))).mono ?_
  rintro e x1 ⟨⟨sl, sh, cv, cq, cr, co, ci, cn, cu, cI, cj⟩, rfl, rS, bx1⟩
  have RS := I5 rS
  clear rS q0
  simp only [SV.val]
  replace X := I5 (X.out.after bx1)
  replace Y := I5 (Y.out.after bx1)
  replace B := B.trans (bx1.mono B.size)
  clear bx1
  go_upto_region 2 with (refine ac (cells := #[.bool sl, .bool sh, .slice cv cq cr, .slice co ci cn, .slice cu cI cj]) rfl 32 _ _ rfl (Box.new _ _ _) (by rfl) (by rfl) rfl (by kernel_rfl) (by simp [Value.oneCell']) ?_; intro u9 X9 st9)
  have s8 := Y.out.lt
  have bs2 : Below x1.heap.size x1 u9 := st9.below x1.heap.size x1 (Nat.le_refl _) ((Below.refl _ _).alloc (Nat.le_refl _) _)
  have Z := I5 X9
  replace X := I5 (X.out.after bs2)
  replace Y := I5 (Y.out.after bs2)
  replace RS := I5 (RS.out.after bs2)
  replace B := B.trans (bs2.mono B.size)
  clear bs2 st9 X9
  generalize u9 = x2 at *
  replace RS := I5 RS.out.there
  have c9 : Below x2.heap.size x2 (x2.alloc (.cells #[] 32)) := (Below.refl _ _).alloc (Nat.le_refl _) _
  have xD := Z.out.lt
  have O := I5 (OwnG.new x2 (w.heap.size + 2) 5 (by have := Y.out.lt; omega) #[] 32 0 0 (Nat.le_refl _) (Nat.zero_le _) rfl)
  generalize x1.heap.size = ys at *
  go_upto_region 3 with fail
  change Code.wp _ _ _ _ (x2.alloc (.cells #[] 32))
  replace X := I5 (X.out.after c9)
  replace Y := I5 (Y.out.after c9)
  replace RS := I5 (RS.out.after c9)
  replace Z := I5 (Z.out.after c9)
  replace B := B.trans (c9.mono B.size)
  have CU : x2.heap.size < (x2.alloc (.cells #[] 32)).heap.size := by simp
  have BW : w.heap.size + 1 < x2.heap.size := by omega
  clear c9
  generalize (x2.alloc (.cells #[] 32)) = xe at *
  have q0 := X.out.cell 0 rfl
  generalize x2.heap.size = ye at *
  replace RS : Hid (RdI (fun b => (b < B0 ∨ w.heap.size + 2 ≤ b) ∧ b < ye) xe _ _) := RS
  replace O : Hid (OwnG xe (w.heap.size + 2) 5 (.slice (some ⟨ye, 0, none⟩) 0 0) 0 []) := O
  have KD : Hid (∀ i (hi : i < (([] : List Sx) ++ Tg.valueL (ks.take 0)).length), RdI (okO (fun b => b < B0 ∨ w.heap.size + 2 ≤ b) (.slice (some ⟨ye, 0, none⟩) 0 0)) xe (SV.nil) (([] : List Sx) ++ Tg.valueL (ks.take 0))[i]) := I5 (fun i hi => absurd hi (Nat.not_lt_zero _))
  have X5 := X
  have Y5 := Y
  clear X Y Z RS
  generalize (Value.slice (some ⟨ye, 0, none⟩) 0 0) = acc0 at *
  try generalize vD.val = d9
  have q2 := X5.out.cell 2 rfl
  have uk := Y5.out.lt
  go_wp2_with fail
  go_loopw [4, 65] (fun acc i wr => ∃ (k n : Nat) (K : Nat → SV), k ≤ ks.length ∧ i = .int .i64 k ∧ n = k + 0 ∧ OwnG wr (w.heap.size + 2) 5 acc n (newsK K n) ∧ Hid (∀ i (hi : i < (([] : List Sx) ++ Tg.valueL (ks.take (k))).length), RdI (okO (fun b => b < B0 ∨ w.heap.size + 2 ≤ b) acc) wr (K i) (([] : List Sx) ++ Tg.valueL (ks.take (k)))[i]) ∧ w.heap.size + 2 ≤ wr.heap.size ∧ Below w.heap.size w wr ∧ Box wr w.heap.size 29 #[.int .u8 ay, .slice aw ap av, .slice aA ks.length az, .int .u8 vo, .bool am, .bool ak, .slice aE aB aD, .bool ar, .bool aq, .slice aI aC aH] ∧ Box wr (w.heap.size + 1) 32 #[.bool false, .bool false, .slice none 0 0, .slice none 0 0, .slice none 0 0]) (fun _ i _ => ks.length - (intOf i).toNat)
  case atStart => exact ⟨0, 0, (fun _ => SV.nil), Nat.zero_le _, rfl, rfl, O.out, KD, by omega, B, X5.out, Y5.out⟩
  case round =>
    obtain ⟨k, n, KK, AH, rfl, i9, ho, hme, kQ, hb, hx, hy⟩ := hrel
    clear q2 O KD X5 Y5 B
    have sv := I5 i9
    have ut : n ≤ 710 := by omega
    clear i9
    have X5 := I5 hx
    have q2 := X5.out.cell 2 rfl
    clear hx
    by_cases aJ : k < ks.length
    case pos =>
      have fS : (k : Int) < ks.length := by omega
      have cL : (0 : Int) ≤ k := by omega
      obtain ⟨b, o, rfl, a8⟩ := (HR.out.after hb).range aJ
      have HL := I5 a8
      clear a8
      have IH2 := I5 (IH.out _ (List.getElem_mem aJ) (K k) wr (by have := hb.size; omega) ((HK.out k aJ).after hb))
      have nc := I5 ho.lt
      have O1 := I5 ho
      have M1 := hme
      clear ho hme
      go_wp2_with (refine cC _ rfl b _ rfl _ HL.out rfl ?_)
      refine IH2.out.mono ?_
      rintro e w1 ⟨⟨tl, th, bR, bN, bP, bQ, bL, bO, gG, gE, gF⟩, rfl, rt, hb4⟩
      unfold SV.val
      clear IH2 HL
      replace X5 := I5 (X5.out.after hb4)
      have jV := X5.out.lt
      have ca : Below w1.heap.size w1 (w1.alloc (.cells #[.bool tl, .bool th, .slice bR bN bP, .slice bQ bL bO, .slice gG gE gF] 32)) := (Below.refl _ _).alloc (Nat.le_refl _) _
      have O2 := I5 ((O1.out.after hb4).after ca)
      have M2 := I5 (fun i hi => ((M1.out i hi).after hb4).after ca)
      have RV := I5 ((rt.mono (ok' := okO (fun b => b < B0 ∨ w.heap.size + 2 ≤ b) _) (fun b' hb' => by
          have h1 : b' < B0 ∨ wr.heap.size ≤ b' := hb'
          exact ⟨by show b' < B0 ∨ w.heap.size + 2 ≤ b'; omega, fun e => by have h2 := nc.out b' e; omega⟩)).after ca)
      have SR := I5 (xM w1 ⟨tl, th, bR, bN, bP, bQ, bL, bO, gG, gE, gF⟩)
      have b2 := (hb.trans (hb4.mono hb.size))
      have b3 := b2.trans (ca.mono b2.size)
      have wu := I5 ((hy.after hb4).after ca)
      have X6 := I5 (X5.out.after ca)
      have BT := ca.size
      have xD := hb4.size
      clear O1 M1 hb4 ca hy rt X5
      go_wp2_with (refine bw rfl _ _ rfl rfl O2.out rfl SR.out (by omega) (by simp; omega) ?_; intro v3 w3 fj hg3 mh; rw [iJ] at fj)
      go_roundw
      case rel => exact ⟨k + 1, n + 1, _, by omega, by go_num, by have := sv.out; omega, fj, I5 (by
            have hL : (([] : List Sx) ++ Tg.valueL (ks.take (k + 1))) = (([] : List Sx) ++ Tg.valueL (ks.take (k))) ++ [ks[k].value] := by rw [aQ, aQ, List.take_succ_eq_append_getElem aJ, List.map_append, List.append_assoc]; rfl
            rw [hL]
            exact iA (by have := sv.out; simp [aQ]; omega) M2.out RV.out hg3 mh), (by have := hg3.size; omega), bX w.heap.size (by omega) (by omega) O2.out hg3 b3, X6.out.grown hg3 (fun k hk => by have := nc.out k hk; omega), wu.out.grown hg3 (fun k hk => by have := nc.out k hk; omega)⟩
      case measure => simp [intOf]; omega
    case neg =>
      have fS : ¬ (k : Int) < ks.length := by omega
      have te : k = ks.length := by omega
      have mn : ks.take k = ks := List.take_of_length_le (by omega)
      rw [mn] at hme
      obtain ⟨ra, rc, rfl, gi, jb⟩ := ho.row
      have HL : n = (([] : List Sx) ++ Tg.valueL ks).length := by have := sv.out; simp [aQ]; omega
      have RL : Hid (RdI (fun b => b < B0 ∨ w.heap.size + 2 ≤ b) wr ⟨true, false, none, 0, 0, none, 0, 0, ra, n, rc⟩ (li (([] : List Sx) ++ Tg.valueL ks))) := I5 (gL gi (jb.mono (fun b hb => .inr hb)) HL (fun i hi => (hme.out i hi).mono (fun b h => h.1)))
      have B := hb
      have Y5 := I5 hy
      clear gi ho mn HL hme te hy hb
      go_wp2_with (refine ac (cells := #[.bool true, .bool false, .slice none 0 0, .slice none 0 0, .slice ra n rc]) rfl 32 _ _ rfl Y5.out (by rfl) (by rfl) rfl (by kernel_rfl) (by simp [Value.oneCell']) ?_; intro u9 X9 st9)
      have B9 := st9.below w.heap.size w (by omega) B
      have R9 : RdI (fun b => b < B0 ∨ w.heap.size ≤ b) u9 ⟨true, false, none, 0, 0, none, 0, 0, ra, n, rc⟩ (li (([] : List Sx) ++ Tg.valueL ks)) := (RL.out.keep (w' := u9) (fun b hb => st9.other b (by have h1 : b < B0 ∨ w.heap.size + 2 ≤ b := hb; omega))).mono (fun b hb => by have h1 : b < B0 ∨ w.heap.size + 2 ≤ b := hb; show b < B0 ∨ w.heap.size ≤ b; omega)
      exact bodyPost_ret (v := .agg #[.bool true, .bool false, .slice none 0 0, .slice none 0 0, .slice ra n rc]) (ae rfl _ _ (by rfl) X9 Tryz.underlying32 rfl (by kernel_rfl)) rfl ⟨⟨true, false, none, 0, 0, none, 0, 0, ra, n, rc⟩, rfl, R9, B9⟩
theorem lQ {da : List UInt8} {ks : List Tg} {r : Rg} (v : TV) (B0 : Nat) (w : World) (qd : B0 ≤ w.heap.size) (hr : RdT (fun b => b < B0) w v (.mk 4 da ks r)) (ih : ∀ x ∈ ks, ∀ (v : TV) (w : World), B0 ≤ w.heap.size → RdT (fun b => b < B0) w v x → Calls Tryz.prog 26 #[v.val] w (ValI (fun b => b < B0 ∨ w.heap.size ≤ b) x.value w)) (fy : ks.length ≤ 700) :
    Calls Tryz.prog 26 #[v.val] w (ValI (fun b => b < B0 ∨ w.heap.size ≤ b) (li (([at1 starL, at1 setL] : List Sx) ++ Tg.valueL ks)) w) := by
  obtain ⟨i1, i2, i3, _⟩ := hr.inb
  have vm := I5 i1
  have pe := I5 i2
  have vB := I5 i3
  clear i1 i2 i3
  obtain ⟨⟨cH, ho, cK, dv, dx, dw, fJ, fF⟩, an, hsl, cf, hn, K, ah, hk⟩ := hr.parts
  obtain ⟨ay, aw, ap, av, aA, aS, az, vo, am, ak, aE, aB, aD, ar, aq, aI, aC, aH⟩ := v
  obtain ⟨ro, ⟨li, lo, ll⟩, ⟨hi, mN, hl⟩⟩ := r
  dsimp only [Tg.kd, Tg.r, Tg.da, Tg.ks] at cH ho cK dv dx dw fJ fF an hsl cf hn ah hk
  obtain rfl : ay = 4 := cH
  subst ho cK dv dx dw hn
  have fL := I5 an
  have ke := I5 hsl
  have kf := I5 cf
  have HR := I5 ah
  have HK := I5 hk
  have ep := I5 an.1
  have kF := I5 hsl.1
  have kG := I5 cf.1
  have cF := Nat.le_trans an.2.1 an.2.2.1
  have cE := Nat.le_trans ah.1 ah.2.1
  unfold maxLen at cF cE
  clear an hsl cf ah hk hr
  dsimp only at vm pe vB
  have IH := I5 ih
  clear ih
  let x0 := ((w.alloc (.cells #[.int .u8 4, .slice aw ap av, .slice aA ks.length az, .int .u8 vo, .bool am, .bool ak, .slice aE aB aD, .bool ar, .bool aq, .slice aI aC aH] 29)).alloc (.cells #[.bool false, .bool false, .slice none 0 0, .slice none 0 0, .slice none 0 0] 32))
  have B : Below w.heap.size w x0 := ((Below.refl _ _).alloc (Nat.le_refl _) _).alloc (by simp [x0, x0]) _
  have X : Hid (Box x0 w.heap.size 29 #[.int .u8 4, .slice aw ap av, .slice aA ks.length az, .int .u8 vo, .bool am, .bool ak, .slice aE aB aD, .bool ar, .bool aq, .slice aI aC aH]) := I5 ((Box.new _ _ _).alloc _)
  have Y : Hid (Box x0 (w.heap.size + 1) 32 #[.bool false, .bool false, .slice none 0 0, .slice none 0 0, .slice none 0 0]) := I5 (by
    have := Box.new (w.alloc (.cells #[.int .u8 4, .slice aw ap av, .slice aA ks.length az, .int .u8 vo, .bool am, .bool ak, .slice aE aB aD, .bool ar, .bool aq, .slice aI aC aH] 29)) 32 #[.bool false, .bool false, .slice none 0 0, .slice none 0 0, .slice none 0 0]
    simpa [x0] using this)
  show Calls _ _ #[.agg #[.int .u8 4, .slice aw ap av, .slice aA ks.length az, .int .u8 vo, .bool am, .bool ak, .slice aE aB aD, .bool ar, .bool aq, .slice aI aC aH]] _ _
  go_enter Tryz.func26, Tryz.ntmps26
  go_upto_region 1 with fail
  change Code.wp _ _ _ _ x0
  clear_value x0
  have q0 := X.out.cell 0 rfl
  have zD := Y.out.lt
  go_wp2_with fail
  refine (bA (fun b => b < B0 ∨ w.heap.size + 2 ≤ b) ⟨#[42]⟩ (by decide) x0 (fun b hb => .inr (by omega))).mono ?_
  rintro e x1 ⟨⟨sl, sh, cv, cq, cr, co, ci, cn, cu, cI, cj⟩, rfl, rS, bx1⟩
  have RS := I5 rS
  clear rS q0
  simp only [SV.val]
  replace X := I5 (X.out.after bx1)
  replace Y := I5 (Y.out.after bx1)
  replace B := B.trans (bx1.mono B.size)
  clear bx1
  go_upto_region 2 with (refine ac (cells := #[.bool sl, .bool sh, .slice cv cq cr, .slice co ci cn, .slice cu cI cj]) rfl 32 _ _ rfl (Box.new _ _ _) (by rfl) (by rfl) rfl (by kernel_rfl) (by simp [Value.oneCell']) ?_; intro u9 X9 st9)
  have s8 := Y.out.lt
  have bs2 : Below x1.heap.size x1 u9 := st9.below x1.heap.size x1 (Nat.le_refl _) ((Below.refl _ _).alloc (Nat.le_refl _) _)
  have Z := I5 X9
  replace X := I5 (X.out.after bs2)
  replace Y := I5 (Y.out.after bs2)
  replace RS := I5 (RS.out.after bs2)
  replace B := B.trans (bs2.mono B.size)
  clear bs2 st9 X9
  generalize u9 = x2 at *
  replace RS := I5 RS.out.there
  have c9 : Below x2.heap.size x2 (x2.alloc (.cells #[] 32)) := (Below.refl _ _).alloc (Nat.le_refl _) _
  have xD := Z.out.lt
  have O := I5 (OwnG.new x2 (w.heap.size + 2) 5 (by have := Y.out.lt; omega) #[] 32 0 0 (Nat.le_refl _) (Nat.zero_le _) rfl)
  generalize x1.heap.size = ys at *
  go_upto_region 3 with fail
  change Code.wp _ _ _ _ (x2.alloc (.cells #[] 32))
  replace X := I5 (X.out.after c9)
  replace Y := I5 (Y.out.after c9)
  replace RS := I5 (RS.out.after c9)
  replace Z := I5 (Z.out.after c9)
  replace B := B.trans (c9.mono B.size)
  have CU : x2.heap.size < (x2.alloc (.cells #[] 32)).heap.size := by simp
  have BW : w.heap.size + 1 < x2.heap.size := by omega
  clear c9
  generalize (x2.alloc (.cells #[] 32)) = xe at *
  have q0 := X.out.cell 0 rfl
  generalize x2.heap.size = ye at *
  replace RS : Hid (RdI (fun b => (b < B0 ∨ w.heap.size + 2 ≤ b) ∧ b < ye) xe _ _) := RS
  replace O : Hid (OwnG xe (w.heap.size + 2) 5 (.slice (some ⟨ye, 0, none⟩) 0 0) 0 []) := O
  go_upto_region 9 with fail
  clear q0
  have aF : Keeps (fun w' => (Box w' w.heap.size 29 #[.int .u8 4, .slice aw ap av, .slice aA ks.length az, .int .u8 vo, .bool am, .bool ak, .slice aE aB aD, .bool ar, .bool aq, .slice aI aC aH] ∧ Box w' ys 32 #[.bool sl, .bool sh, .slice cv cq cr, .slice co ci cn, .slice cu cI cj] ∧ RdI (fun b => (b < B0 ∨ w.heap.size + 2 ≤ b) ∧ b < ye) w' ⟨sl, sh, cv, cq, cr, co, ci, cn, cu, cI, cj⟩ (at1 starL)) ∧ Box w' (w.heap.size + 1) 32 #[.bool false, .bool false, .slice none 0 0, .slice none 0 0, .slice none 0 0] ∧ Below w.heap.size w w') := fun _ _ h b => ⟨⟨h.1.1.after b, h.1.2.1.after b, h.1.2.2.after b⟩, h.2.1.after b, h.2.2.trans (b.mono h.2.2.size)⟩
  refine aX (w := xe) [] (fun w' => (Box w' w.heap.size 29 #[.int .u8 4, .slice aw ap av, .slice aA ks.length az, .int .u8 vo, .bool am, .bool ak, .slice aE aB aD, .bool ar, .bool aq, .slice aI aC aH] ∧ Box w' ys 32 #[.bool sl, .bool sh, .slice cv cq cr, .slice co ci cn, .slice cu cI cj] ∧ RdI (fun b => (b < B0 ∨ w.heap.size + 2 ≤ b) ∧ b < ye) w' ⟨sl, sh, cv, cq, cr, co, ci, cn, cu, cI, cj⟩ (at1 starL)) ∧ Box w' (w.heap.size + 1) 32 #[.bool false, .bool false, .slice none 0 0, .slice none 0 0, .slice none 0 0] ∧ Below w.heap.size w w') rfl (aF _ _ ⟨⟨X.out, Z.out, RS.out⟩, Y.out, B⟩ (Below.refl _ _).drew) ?_
  have oa := O.out.drew
  refine bG 0 aF rfl (by kernel_rfl) (by kernel_rfl) (by kernel_rfl) (by kernel_rfl) rfl (fun _ _ _ _ h => h) (.slice (some ⟨ye, 0, none⟩) 0 0) (fun w' => by simp [go_sem]) ?_
  simp only [Act.put, I2, I3, I4]
  refine ag 1 aF rfl (by kernel_rfl) (by kernel_rfl) (by kernel_rfl) (by kernel_rfl) rfl (fun _ _ _ _ h => h) (.agg #[.bool sl, .bool sh, .slice cv cq cr, .slice co ci cn, .slice cu cI cj]) (fun w' h => ds rfl h.1.2.1 (by rfl) Tryz.underlying32 rfl (by kernel_rfl)) ?_
  simp only [Act.put, I2, I3, I4]
  refine aN 2 rfl (by kernel_rfl) (by kernel_rfl) rfl ?_
  intro z1 ez1 sz1
  have lz1 := sz1.2.1.lt
  replace oa := oa.after ez1
  refine aT 47 #[.string ⟨#[115, 101, 116]⟩] (by simp [go_sem]) _ (bA (fun b => (b < B0 ∨ w.heap.size + 2 ≤ b) ∧ b ≠ ye) ⟨#[115, 101, 116]⟩ (by decide) z1 (fun b hb => by have h1 := (oa.lt ye rfl).2; exact ⟨.inr (by omega), by omega⟩)) ?_
  rintro e z2 ⟨vD, rfl, rD, cz2⟩
  replace oa := oa.after cz2
  refine ⟨_, rfl, aF _ _ sz1 cz2, ?_⟩
  simp only [Act.put, I2, I3, I4]
  refine aN 3 rfl (by kernel_rfl) (by kernel_rfl) rfl ?_
  intro z3 ez3 sz3
  have lz3 := sz3.2.1.lt
  replace rD := rD.after ez3
  replace oa := oa.after ez3
  have rr0 : RdI (fun b => (fun b => (b < B0 ∨ w.heap.size + 2 ≤ b) ∧ b ≠ ye) b ∧ b < z3.heap.size) z3 (⟨sl, sh, cv, cq, cr, co, ci, cn, cu, cI, cj⟩ : SV) _ := (sz3.1.2.2).there.mono (fun b hb => ⟨⟨hb.1.1, by have := hb.1.2; omega⟩, hb.2⟩)
  have rr1 : RdI (fun b => (fun b => (b < B0 ∨ w.heap.size + 2 ≤ b) ∧ b ≠ ye) b ∧ b < z3.heap.size) z3 vD _ := rD.there
  clear rD
  refine cp (.slice (some ⟨z3.heap.size, 0, none⟩) 2 2) (z3.alloc (.cells #[.bool sl, .bool sh, .slice cv cq cr, .slice co ci cn, .slice cu cI cj, .bool vD.l, .bool vD.h, .slice vD.a1 vD.n1 vD.c1, .slice vD.a2 vD.n2 vD.c2, .slice vD.a3 vD.n3 vD.c3] 32)) (by simp [go_sem, SV.val]) ?_
  have c9 : Below z3.heap.size z3 (z3.alloc (.cells #[.bool sl, .bool sh, .slice cv cq cr, .slice co ci cn, .slice cu cI cj, .bool vD.l, .bool vD.h, .slice vD.a1 vD.n1 vD.c1, .slice vD.a2 vD.n2 vD.c2, .slice vD.a3 vD.n3 vD.c3] 32)) := (Below.refl _ _).alloc (Nat.le_refl _) _
  have o9 : OwnG (z3.alloc (.cells #[.bool sl, .bool sh, .slice cv cq cr, .slice co ci cn, .slice cu cI cj, .bool vD.l, .bool vD.h, .slice vD.a1 vD.n1 vD.c1, .slice vD.a2 vD.n2 vD.c2, .slice vD.a3 vD.n3 vD.c3] 32)) (w.heap.size + 2) 5 (.slice (some ⟨z3.heap.size, 0, none⟩) 2 2) 2 (newsK (fun i => if i = 0 then (⟨sl, sh, cv, cq, cr, co, ci, cn, cu, cI, cj⟩ : SV) else vD) 2) := by
    have := OwnG.new z3 (w.heap.size + 2) 5 (by omega) #[.bool sl, .bool sh, .slice cv cq cr, .slice co ci cn, .slice cu cI cj, .bool vD.l, .bool vD.h, .slice vD.a1 vD.n1 vD.c1, .slice vD.a2 vD.n2 vD.c2, .slice vD.a3 vD.n3 vD.c3] 32 2 2 (Nat.le_refl _) (by unfold maxLen; omega) rfl
    exact this
  replace oa := oa.after c9
  replace rr0 := rr0.after c9
  replace rr1 := rr1.after c9
  refine ⟨aF _ _ sz3 c9, ?_⟩
  simp only [Act.put, I2, I3, I4]
  refine aN 4 rfl (by kernel_rfl) (by kernel_rfl) rfl ?_
  intro z5 ez5 sz5
  have lz5 := sz5.2.1.lt
  replace oa := oa.after ez5
  replace rr0 := rr0.after ez5
  replace rr1 := rr1.after ez5
  replace o9 := o9.after ez5
  have DT := (oa.lt ye rfl).2
  have DQ : z3.heap.size < z5.heap.size := Nat.lt_of_lt_of_le (by simp) ez5.size
  refine fO _ _ rfl rfl oa rfl o9.srcK (by omega) (by omega) ?_
  intro v6 z6 o6 g6 n6
  refine ⟨⟨⟨sz5.1.1.grown g6 (fun k hk => by have h1 := (oa.lt k hk).1; omega), sz5.1.2.1.grown g6 (fun k hk => by have h1 : ye = k := Option.some.inj hk; omega), (sz5.1.2.2).keep (fun b hb => g6.block b (by have h1 : b < ye := hb.2; omega) (fun e => by have h2 : b = ye := Option.some.inj e; have h1 : b < ye := hb.2; omega))⟩, sz5.2.1.grown g6 (fun k hk => by have h1 := (oa.lt k hk).1; omega), bX w.heap.size (by omega) (by omega) oa g6 sz5.2.2⟩, ?_⟩
  simp only [Act.put, I2, I3, I4]
  refine bG 5 aF rfl (by kernel_rfl) (by kernel_rfl) (by kernel_rfl) (by kernel_rfl) rfl (fun _ _ _ _ h => h) (v6) (fun w' => by simp [go_sem]) ?_
  simp only [Act.put, I2, I3, I4]
  rw [Nat.zero_add, List.nil_append] at o6
  refine eK (by kernel_rfl) ?_
  intro z99 b99 s99
  replace O := I5 (o6.after b99)
  have zG : ∀ k, v6.ownBlock = some k → k = ye ∨ z5.heap.size ≤ k := fun k hk => (n6 k hk).imp (fun e => by have h2 : ye = k := Option.some.inj e; omega) id
  have KD : Hid (∀ i (hi : i < (([at1 starL, at1 setL] : List Sx) ++ Tg.valueL (ks.take 0)).length), RdI (okO (fun b => b < B0 ∨ w.heap.size + 2 ≤ b) v6) z99 ((fun i => if i = 0 then (⟨sl, sh, cv, cq, cr, co, ci, cn, cu, cI, cj⟩ : SV) else vD) i) (([at1 starL, at1 setL] : List Sx) ++ Tg.valueL (ks.take 0))[i]) := I5 (fun i hi => match i, hi with | 0, _ => ((rr0.keep (w' := z6) (fun b hb => g6.block b (by have h1 : b < z3.heap.size := hb.2; omega) (fun e => by have h2 : b = ye := Option.some.inj e; exact hb.1.2 (by omega)))).mono (ok' := okO (fun b => b < B0 ∨ w.heap.size + 2 ≤ b) v6) (fun b hb => ⟨hb.1.1, fun e => (zG b e).elim (fun h1 => hb.1.2 h1) (fun h1 => by have h2 : b < z3.heap.size := hb.2; omega)⟩)).after b99 | 1, _ => ((rr1.keep (w' := z6) (fun b hb => g6.block b (by have h1 : b < z3.heap.size := hb.2; omega) (fun e => by have h2 : b = ye := Option.some.inj e; exact hb.1.2 (by omega)))).mono (ok' := okO (fun b => b < B0 ∨ w.heap.size + 2 ≤ b) v6) (fun b hb => ⟨hb.1.1, fun e => (zG b e).elim (fun h1 => hb.1.2 h1) (fun h1 => by have h2 : b < z3.heap.size := hb.2; omega)⟩)).after b99)
  have X5 := I5 s99.1.1
  have Y5 := I5 s99.2.1
  replace B := s99.2.2
  generalize (fun i => if i = 0 then (⟨sl, sh, cv, cq, cr, co, ci, cn, cu, cI, cj⟩ : SV) else vD) = K0 at *
  clear aF X Y Z RS oa o9 o6 b99 s99 c9 g6 n6 zG DT DQ rr0 rr1
  have q0 := X5.out.cell 0 rfl
  try generalize vD.val = d9
  have q2 := X5.out.cell 2 rfl
  have uk := Y5.out.lt
  go_wp2_with fail
  go_loopw [4, 65] (fun acc i wr => ∃ (k n : Nat) (K : Nat → SV), k ≤ ks.length ∧ i = .int .i64 k ∧ n = k + 2 ∧ OwnG wr (w.heap.size + 2) 5 acc n (newsK K n) ∧ Hid (∀ i (hi : i < (([at1 starL, at1 setL] : List Sx) ++ Tg.valueL (ks.take (k))).length), RdI (okO (fun b => b < B0 ∨ w.heap.size + 2 ≤ b) acc) wr (K i) (([at1 starL, at1 setL] : List Sx) ++ Tg.valueL (ks.take (k)))[i]) ∧ w.heap.size + 2 ≤ wr.heap.size ∧ Below w.heap.size w wr ∧ Box wr w.heap.size 29 #[.int .u8 4, .slice aw ap av, .slice aA ks.length az, .int .u8 vo, .bool am, .bool ak, .slice aE aB aD, .bool ar, .bool aq, .slice aI aC aH] ∧ Box wr (w.heap.size + 1) 32 #[.bool false, .bool false, .slice none 0 0, .slice none 0 0, .slice none 0 0]) (fun _ i _ => ks.length - (intOf i).toNat)
  case atStart => exact ⟨0, 2, K0, Nat.zero_le _, rfl, rfl, O.out, KD, by omega, B, X5.out, Y5.out⟩
  case round =>
    obtain ⟨k, n, KK, AH, rfl, i9, ho, hme, kQ, hb, hx, hy⟩ := hrel
    clear q2 O KD X5 Y5 B
    have sv := I5 i9
    have ut : n ≤ 710 := by omega
    clear i9
    have X5 := I5 hx
    have q2 := X5.out.cell 2 rfl
    clear hx
    by_cases aJ : k < ks.length
    case pos =>
      have fS : (k : Int) < ks.length := by omega
      have cL : (0 : Int) ≤ k := by omega
      obtain ⟨b, o, rfl, a8⟩ := (HR.out.after hb).range aJ
      have HL := I5 a8
      clear a8
      have IH2 := I5 (IH.out _ (List.getElem_mem aJ) (K k) wr (by have := hb.size; omega) ((HK.out k aJ).after hb))
      have nc := I5 ho.lt
      have O1 := I5 ho
      have M1 := hme
      clear ho hme
      go_wp2_with (refine cC _ rfl b _ rfl _ HL.out rfl ?_)
      refine IH2.out.mono ?_
      rintro e w1 ⟨⟨tl, th, bR, bN, bP, bQ, bL, bO, gG, gE, gF⟩, rfl, rt, hb4⟩
      unfold SV.val
      clear IH2 HL
      replace X5 := I5 (X5.out.after hb4)
      have jV := X5.out.lt
      have ca : Below w1.heap.size w1 (w1.alloc (.cells #[.bool tl, .bool th, .slice bR bN bP, .slice bQ bL bO, .slice gG gE gF] 32)) := (Below.refl _ _).alloc (Nat.le_refl _) _
      have O2 := I5 ((O1.out.after hb4).after ca)
      have M2 := I5 (fun i hi => ((M1.out i hi).after hb4).after ca)
      have RV := I5 ((rt.mono (ok' := okO (fun b => b < B0 ∨ w.heap.size + 2 ≤ b) _) (fun b' hb' => by
          have h1 : b' < B0 ∨ wr.heap.size ≤ b' := hb'
          exact ⟨by show b' < B0 ∨ w.heap.size + 2 ≤ b'; omega, fun e => by have h2 := nc.out b' e; omega⟩)).after ca)
      have SR := I5 (xM w1 ⟨tl, th, bR, bN, bP, bQ, bL, bO, gG, gE, gF⟩)
      have b2 := (hb.trans (hb4.mono hb.size))
      have b3 := b2.trans (ca.mono b2.size)
      have wu := I5 ((hy.after hb4).after ca)
      have X6 := I5 (X5.out.after ca)
      have BT := ca.size
      have xD := hb4.size
      clear O1 M1 hb4 ca hy rt X5
      go_wp2_with (refine bw rfl _ _ rfl rfl O2.out rfl SR.out (by omega) (by simp; omega) ?_; intro v3 w3 fj hg3 mh; rw [iJ] at fj)
      go_roundw
      case rel => exact ⟨k + 1, n + 1, _, by omega, by go_num, by have := sv.out; omega, fj, I5 (by
            have hL : (([at1 starL, at1 setL] : List Sx) ++ Tg.valueL (ks.take (k + 1))) = (([at1 starL, at1 setL] : List Sx) ++ Tg.valueL (ks.take (k))) ++ [ks[k].value] := by rw [aQ, aQ, List.take_succ_eq_append_getElem aJ, List.map_append, List.append_assoc]; rfl
            rw [hL]
            exact iA (by have := sv.out; simp [aQ]; omega) M2.out RV.out hg3 mh), (by have := hg3.size; omega), bX w.heap.size (by omega) (by omega) O2.out hg3 b3, X6.out.grown hg3 (fun k hk => by have := nc.out k hk; omega), wu.out.grown hg3 (fun k hk => by have := nc.out k hk; omega)⟩
      case measure => simp [intOf]; omega
    case neg =>
      have fS : ¬ (k : Int) < ks.length := by omega
      have te : k = ks.length := by omega
      have mn : ks.take k = ks := List.take_of_length_le (by omega)
      rw [mn] at hme
      obtain ⟨ra, rc, rfl, gi, jb⟩ := ho.row
      have HL : n = (([at1 starL, at1 setL] : List Sx) ++ Tg.valueL ks).length := by have := sv.out; simp [aQ]; omega
      have RL : Hid (RdI (fun b => b < B0 ∨ w.heap.size + 2 ≤ b) wr ⟨true, false, none, 0, 0, none, 0, 0, ra, n, rc⟩ (li (([at1 starL, at1 setL] : List Sx) ++ Tg.valueL ks))) := I5 (gL gi (jb.mono (fun b hb => .inr hb)) HL (fun i hi => (hme.out i hi).mono (fun b h => h.1)))
      have B := hb
      have Y5 := I5 hy
      clear gi ho mn HL hme te hy hb
      go_wp2_with (refine ac (cells := #[.bool true, .bool false, .slice none 0 0, .slice none 0 0, .slice ra n rc]) rfl 32 _ _ rfl Y5.out (by rfl) (by rfl) rfl (by kernel_rfl) (by simp [Value.oneCell']) ?_; intro u9 X9 st9)
      have B9 := st9.below w.heap.size w (by omega) B
      have R9 : RdI (fun b => b < B0 ∨ w.heap.size ≤ b) u9 ⟨true, false, none, 0, 0, none, 0, 0, ra, n, rc⟩ (li (([at1 starL, at1 setL] : List Sx) ++ Tg.valueL ks)) := (RL.out.keep (w' := u9) (fun b hb => st9.other b (by have h1 : b < B0 ∨ w.heap.size + 2 ≤ b := hb; omega))).mono (fun b hb => by have h1 : b < B0 ∨ w.heap.size + 2 ≤ b := hb; show b < B0 ∨ w.heap.size ≤ b; omega)
      exact bodyPost_ret (v := .agg #[.bool true, .bool false, .slice none 0 0, .slice none 0 0, .slice ra n rc]) (ae rfl _ _ (by rfl) X9 Tryz.underlying32 rfl (by kernel_rfl)) rfl ⟨⟨true, false, none, 0, 0, none, 0, 0, ra, n, rc⟩, rfl, R9, B9⟩
theorem lO {da : List UInt8} {ks : List Tg} {r : Rg} (v : TV) (B0 : Nat) (w : World) (qd : B0 ≤ w.heap.size) (hr : RdT (fun b => b < B0) w v (.mk 6 da ks r)) :
  Calls Tryz.prog 26 #[v.val] w (ValI (fun b => b < B0 ∨ w.heap.size ≤ b) (ranV r) w) := by
 obtain ⟨i1, i2, i3, _⟩ := hr.inb
 have vm := I5 i1
 have pe := I5 i2
 have vB := I5 i3
 clear i1 i2 i3
 obtain ⟨⟨cH, ho, cK, dv, dx, dw, fJ, fF⟩, an, hsl, cf, hn, K, ah, hk⟩ := hr.parts
 obtain ⟨ay, aw, ap, av, aA, aS, az, vo, am, ak, aE, aB, aD, ar, aq, aI, aC, aH⟩ := v
 obtain ⟨ro, ⟨li, lo, ll⟩, ⟨hi, mN, hl⟩⟩ := r
 dsimp only [Tg.kd, Tg.r, Tg.da, Tg.ks] at cH ho cK dv dx dw fJ fF an hsl cf hn ah hk
 obtain rfl : ay = 6 := cH
 subst ho cK dv dx dw hn
 have fL := I5 an
 have ke := I5 hsl
 have kf := I5 cf
 have HR := I5 ah
 have HK := I5 hk
 have ep := I5 an.1
 have kF := I5 hsl.1
 have kG := I5 cf.1
 have cF := Nat.le_trans an.2.1 an.2.2.1
 have cE := Nat.le_trans ah.1 ah.2.1
 unfold maxLen at cF cE
 clear an hsl cf ah hk hr
 dsimp only at vm pe vB
 let x0 := ((w.alloc (.cells #[.int .u8 6, .slice aw ap av, .slice aA ks.length az, .int .u8 vo, .bool am, .bool ak, .slice aE aB aD, .bool ar, .bool aq, .slice aI aC aH] 29)).alloc (.cells #[.bool false, .bool false, .slice none 0 0, .slice none 0 0, .slice none 0 0] 32))
 have B : Below w.heap.size w x0 := ((Below.refl _ _).alloc (Nat.le_refl _) _).alloc (by simp [x0, x0]) _
 have X : Hid (Box x0 w.heap.size 29 #[.int .u8 6, .slice aw ap av, .slice aA ks.length az, .int .u8 vo, .bool am, .bool ak, .slice aE aB aD, .bool ar, .bool aq, .slice aI aC aH]) := I5 ((Box.new _ _ _).alloc _)
 have Y : Hid (Box x0 (w.heap.size + 1) 32 #[.bool false, .bool false, .slice none 0 0, .slice none 0 0, .slice none 0 0]) := I5 (by
  have := Box.new (w.alloc (.cells #[.int .u8 6, .slice aw ap av, .slice aA ks.length az, .int .u8 vo, .bool am, .bool ak, .slice aE aB aD, .bool ar, .bool aq, .slice aI aC aH] 29)) 32 #[.bool false, .bool false, .slice none 0 0, .slice none 0 0, .slice none 0 0]
  simpa [x0] using this)
 show Calls _ _ #[.agg #[.int .u8 6, .slice aw ap av, .slice aA ks.length az, .int .u8 vo, .bool am, .bool ak, .slice aE aB aD, .bool ar, .bool aq, .slice aI aC aH]] _ _
 go_enter Tryz.func26, Tryz.ntmps26
 go_upto_region 1 with fail
 change Code.wp _ _ _ _ x0
 clear_value x0
 have q0 := X.out.cell 0 rfl
 have zD := Y.out.lt
 go_wp2_with fail
 refine (bA (fun b => b < B0 ∨ w.heap.size + 2 ≤ b) ⟨#[42]⟩ (by decide) x0 (fun b hb => .inr (by omega))).mono ?_
 rintro e x1 ⟨⟨sl, sh, cv, cq, cr, co, ci, cn, cu, cI, cj⟩, rfl, rS, bx1⟩
 have RS := I5 rS
 clear rS q0
 simp only [SV.val]
 replace X := I5 (X.out.after bx1)
 replace Y := I5 (Y.out.after bx1)
 replace B := B.trans (bx1.mono B.size)
 clear bx1
 go_upto_region 2 with (refine ac (cells := #[.bool sl, .bool sh, .slice cv cq cr, .slice co ci cn, .slice cu cI cj]) rfl 32 _ _ rfl (Box.new _ _ _) (by rfl) (by rfl) rfl (by kernel_rfl) (by simp [Value.oneCell']) ?_; intro u9 X9 st9)
 have s8 := Y.out.lt
 have bs2 : Below x1.heap.size x1 u9 := st9.below x1.heap.size x1 (Nat.le_refl _) ((Below.refl _ _).alloc (Nat.le_refl _) _)
 have Z := I5 X9
 replace X := I5 (X.out.after bs2)
 replace Y := I5 (Y.out.after bs2)
 replace RS := I5 (RS.out.after bs2)
 replace B := B.trans (bs2.mono B.size)
 clear bs2 st9 X9
 generalize u9 = x2 at *
 replace RS := I5 RS.out.there
 have c9 : Below x2.heap.size x2 (x2.alloc (.cells #[] 32)) := (Below.refl _ _).alloc (Nat.le_refl _) _
 have xD := Z.out.lt
 have O := I5 (OwnG.new x2 (w.heap.size + 2) 5 (by have := Y.out.lt; omega) #[] 32 0 0 (Nat.le_refl _) (Nat.zero_le _) rfl)
 generalize x1.heap.size = ys at *
 go_upto_region 3 with fail
 change Code.wp _ _ _ _ (x2.alloc (.cells #[] 32))
 replace X := I5 (X.out.after c9)
 replace Y := I5 (Y.out.after c9)
 replace RS := I5 (RS.out.after c9)
 replace Z := I5 (Z.out.after c9)
 replace B := B.trans (c9.mono B.size)
 have CU : x2.heap.size < (x2.alloc (.cells #[] 32)).heap.size := by simp
 have BW : w.heap.size + 1 < x2.heap.size := by omega
 clear c9
 generalize (x2.alloc (.cells #[] 32)) = xe at *
 have q0 := X.out.cell 0 rfl
 generalize x2.heap.size = ye at *
 replace RS : Hid (RdI (fun b => (b < B0 ∨ w.heap.size + 2 ≤ b) ∧ b < ye) xe _ _) := RS
 replace O : Hid (OwnG xe (w.heap.size + 2) 5 (.slice (some ⟨ye, 0, none⟩) 0 0) 0 []) := O
 go_upto_region 13 with fail
 clear q0
 have aF : Keeps (fun w' => (Box w' w.heap.size 29 #[.int .u8 6, .slice aw ap av, .slice aA ks.length az, .int .u8 vo, .bool am, .bool ak, .slice aE aB aD, .bool ar, .bool aq, .slice aI aC aH] ∧ Box w' ys 32 #[.bool sl, .bool sh, .slice cv cq cr, .slice co ci cn, .slice cu cI cj] ∧ RdI (fun b => (b < B0 ∨ w.heap.size + 2 ≤ b) ∧ b < ye) w' ⟨sl, sh, cv, cq, cr, co, ci, cn, cu, cI, cj⟩ (at1 starL)) ∧ Box w' (w.heap.size + 1) 32 #[.bool false, .bool false, .slice none 0 0, .slice none 0 0, .slice none 0 0] ∧ Below w.heap.size w w') := fun _ _ h b => ⟨⟨h.1.1.after b, h.1.2.1.after b, h.1.2.2.after b⟩, h.2.1.after b, h.2.2.trans (b.mono h.2.2.size)⟩
 refine aX (w := xe) [] (fun w' => (Box w' w.heap.size 29 #[.int .u8 6, .slice aw ap av, .slice aA ks.length az, .int .u8 vo, .bool am, .bool ak, .slice aE aB aD, .bool ar, .bool aq, .slice aI aC aH] ∧ Box w' ys 32 #[.bool sl, .bool sh, .slice cv cq cr, .slice co ci cn, .slice cu cI cj] ∧ RdI (fun b => (b < B0 ∨ w.heap.size + 2 ≤ b) ∧ b < ye) w' ⟨sl, sh, cv, cq, cr, co, ci, cn, cu, cI, cj⟩ (at1 starL)) ∧ Box w' (w.heap.size + 1) 32 #[.bool false, .bool false, .slice none 0 0, .slice none 0 0, .slice none 0 0] ∧ Below w.heap.size w w') rfl (aF _ _ ⟨⟨X.out, Z.out, RS.out⟩, Y.out, B⟩ (Below.refl _ _).drew) ?_
 have oa := O.out.drew
 refine bG 0 aF rfl (by kernel_rfl) (by kernel_rfl) (by kernel_rfl) (by kernel_rfl) rfl (fun _ _ _ _ h => h) (.slice (some ⟨ye, 0, none⟩) 0 0) (fun w' => by simp [go_sem]) ?_
 simp only [Act.put, I2, I3, I4]
 refine ag 1 aF rfl (by kernel_rfl) (by kernel_rfl) (by kernel_rfl) (by kernel_rfl) rfl (fun _ _ _ _ h => h) (.agg #[.bool sl, .bool sh, .slice cv cq cr, .slice co ci cn, .slice cu cI cj]) (fun w' h => ds rfl h.1.2.1 (by rfl) Tryz.underlying32 rfl (by kernel_rfl)) ?_
 simp only [Act.put, I2, I3, I4]
 refine ag 3 aF rfl (by kernel_rfl) (by kernel_rfl) (by kernel_rfl) (by kernel_rfl) rfl (fun _ _ _ _ h => h) (.pointer (some ⟨w.heap.size, 3, none⟩)) (fun w' h => by simp [go_sem]) ?_
 simp only [Act.put, I2, I3, I4]
 refine ag 4 aF rfl (by kernel_rfl) (by kernel_rfl) (by kernel_rfl) (by kernel_rfl) rfl (fun _ _ _ _ h => h) (.pointer (some ⟨w.heap.size, 3, none⟩)) (fun w' h => by simp [go_sem]) ?_
 simp only [Act.put, I2, I3, I4]
 refine ag 5 aF rfl (by kernel_rfl) (by kernel_rfl) (by kernel_rfl) (by kernel_rfl) rfl (fun _ _ _ _ h => h) (.int .u8 vo) (fun w' h => by simp [go_sem, h.1.1.cell 3 rfl]) ?_
 simp only [Act.put, I2, I3, I4]
 refine aN 2 rfl (by kernel_rfl) (by kernel_rfl) rfl ?_
 intro z1 ez1 sz1
 have lz1 := sz1.2.1.lt
 replace oa := oa.after ez1
 refine aT 47 #[.string ⟨#[114, 97, 110, 103, 101]⟩] (by simp [go_sem]) _ (bA (fun b => (b < B0 ∨ w.heap.size + 2 ≤ b) ∧ b ≠ ye) ⟨#[114, 97, 110, 103, 101]⟩ (by decide) z1 (fun b hb => by have h1 := (oa.lt ye rfl).2; exact ⟨.inr (by omega), by omega⟩)) ?_
 rintro e z2 ⟨vD, rfl, rD, cz2⟩
 replace oa := oa.after cz2
 refine ⟨_, rfl, aF _ _ sz1 cz2, ?_⟩
 simp only [Act.put, I2, I3, I4]
 refine aN 6 rfl (by kernel_rfl) (by kernel_rfl) rfl ?_
 intro z3 ez3 sz3
 have lz3 := sz3.2.1.lt
 replace rD := rD.after ez3
 replace oa := oa.after ez3
 refine aT 48 #[.int .u8 vo] (by simp [go_sem]) _ (pI vo z3 fF) ?_
 rintro e z4 ⟨rfl, cz4⟩
 replace rD := rD.after cz4
 replace oa := oa.after cz4
 refine ⟨_, rfl, aF _ _ sz3 cz4, ?_⟩
 simp only [Act.put, I2, I3, I4]
 refine aN 7 rfl (by kernel_rfl) (by kernel_rfl) rfl ?_
 intro z5 ez5 sz5
 have lz5 := sz5.2.1.lt
 replace rD := rD.after ez5
 replace oa := oa.after ez5
 refine aT 47 #[.string ⟨(nameO vo).toArray⟩] (by simp [go_sem]) _ (bA (fun b => (b < B0 ∨ w.heap.size + 2 ≤ b) ∧ b ≠ ye) ⟨(nameO vo).toArray⟩ (by have := I7 vo; show (nameO vo).toArray.size ≤ _; simp; omega) z5 (fun b hb => by have h1 := (oa.lt ye rfl).2; exact ⟨.inr (by omega), by omega⟩)) ?_
 rintro e z6 ⟨vE, rfl, rE, cz6⟩
 replace rD := rD.after cz6
 replace oa := oa.after cz6
 refine ⟨_, rfl, aF _ _ sz5 cz6, ?_⟩
 simp only [Act.put, I2, I3, I4]
 refine aN 8 rfl (by kernel_rfl) (by kernel_rfl) rfl ?_
 intro z7 ez7 sz7
 have lz7 := sz7.2.1.lt
 replace rD := rD.after ez7
 replace rE := rE.after ez7
 replace oa := oa.after ez7
 have rr0 : RdI (fun b => (fun b => (b < B0 ∨ w.heap.size + 2 ≤ b) ∧ b ≠ ye) b ∧ b < z7.heap.size) z7 (⟨sl, sh, cv, cq, cr, co, ci, cn, cu, cI, cj⟩ : SV) _ := (sz7.1.2.2).there.mono (fun b hb => ⟨⟨hb.1.1, by have := hb.1.2; omega⟩, hb.2⟩)
 have rr1 : RdI (fun b => (fun b => (b < B0 ∨ w.heap.size + 2 ≤ b) ∧ b ≠ ye) b ∧ b < z7.heap.size) z7 vD _ := rD.there
 have rr2 : RdI (fun b => (fun b => (b < B0 ∨ w.heap.size + 2 ≤ b) ∧ b ≠ ye) b ∧ b < z7.heap.size) z7 vE _ := rE.there
 clear rD rE
 refine cp (.slice (some ⟨z7.heap.size, 0, none⟩) 3 3) (z7.alloc (.cells #[.bool sl, .bool sh, .slice cv cq cr, .slice co ci cn, .slice cu cI cj, .bool vD.l, .bool vD.h, .slice vD.a1 vD.n1 vD.c1, .slice vD.a2 vD.n2 vD.c2, .slice vD.a3 vD.n3 vD.c3, .bool vE.l, .bool vE.h, .slice vE.a1 vE.n1 vE.c1, .slice vE.a2 vE.n2 vE.c2, .slice vE.a3 vE.n3 vE.c3] 32)) (by simp [go_sem, SV.val]) ?_
 have c9 : Below z7.heap.size z7 (z7.alloc (.cells #[.bool sl, .bool sh, .slice cv cq cr, .slice co ci cn, .slice cu cI cj, .bool vD.l, .bool vD.h, .slice vD.a1 vD.n1 vD.c1, .slice vD.a2 vD.n2 vD.c2, .slice vD.a3 vD.n3 vD.c3, .bool vE.l, .bool vE.h, .slice vE.a1 vE.n1 vE.c1, .slice vE.a2 vE.n2 vE.c2, .slice vE.a3 vE.n3 vE.c3] 32)) := (Below.refl _ _).alloc (Nat.le_refl _) _
 have o9 : OwnG (z7.alloc (.cells #[.bool sl, .bool sh, .slice cv cq cr, .slice co ci cn, .slice cu cI cj, .bool vD.l, .bool vD.h, .slice vD.a1 vD.n1 vD.c1, .slice vD.a2 vD.n2 vD.c2, .slice vD.a3 vD.n3 vD.c3, .bool vE.l, .bool vE.h, .slice vE.a1 vE.n1 vE.c1, .slice vE.a2 vE.n2 vE.c2, .slice vE.a3 vE.n3 vE.c3] 32)) (w.heap.size + 2) 5 (.slice (some ⟨z7.heap.size, 0, none⟩) 3 3) 3 (newsK (fun i => if i = 0 then (⟨sl, sh, cv, cq, cr, co, ci, cn, cu, cI, cj⟩ : SV) else if i = 1 then vD else vE) 3) := by
  have := OwnG.new z7 (w.heap.size + 2) 5 (by omega) #[.bool sl, .bool sh, .slice cv cq cr, .slice co ci cn, .slice cu cI cj, .bool vD.l, .bool vD.h, .slice vD.a1 vD.n1 vD.c1, .slice vD.a2 vD.n2 vD.c2, .slice vD.a3 vD.n3 vD.c3, .bool vE.l, .bool vE.h, .slice vE.a1 vE.n1 vE.c1, .slice vE.a2 vE.n2 vE.c2, .slice vE.a3 vE.n3 vE.c3] 32 3 3 (Nat.le_refl _) (by unfold maxLen; omega) rfl
  exact this
 replace oa := oa.after c9
 replace rr0 := rr0.after c9
 replace rr1 := rr1.after c9
 replace rr2 := rr2.after c9
 refine ⟨aF _ _ sz7 c9, ?_⟩
 simp only [Act.put, I2, I3, I4]
 refine aN 9 rfl (by kernel_rfl) (by kernel_rfl) rfl ?_
 intro z9 ez9 sz9
 have lz9 := sz9.2.1.lt
 replace oa := oa.after ez9
 replace rr0 := rr0.after ez9
 replace rr1 := rr1.after ez9
 replace rr2 := rr2.after ez9
 replace o9 := o9.after ez9
 have DT := (oa.lt ye rfl).2
 have DQ : z7.heap.size < z9.heap.size := Nat.lt_of_lt_of_le (by simp) ez9.size
 refine fO _ _ rfl rfl oa rfl o9.srcK (by omega) (by omega) ?_
 intro v6 z6 o6 g6 n6
 refine ⟨⟨⟨sz9.1.1.grown g6 (fun k hk => by have h1 := (oa.lt k hk).1; omega), sz9.1.2.1.grown g6 (fun k hk => by have h1 : ye = k := Option.some.inj hk; omega), (sz9.1.2.2).keep (fun b hb => g6.block b (by have h1 : b < ye := hb.2; omega) (fun e => by have h2 : b = ye := Option.some.inj e; have h1 : b < ye := hb.2; omega))⟩, sz9.2.1.grown g6 (fun k hk => by have h1 := (oa.lt k hk).1; omega), bX w.heap.size (by omega) (by omega) oa g6 sz9.2.2⟩, ?_⟩
 simp only [Act.put, I2, I3, I4]
 refine bG 10 aF rfl (by kernel_rfl) (by kernel_rfl) (by kernel_rfl) (by kernel_rfl) rfl (fun _ _ _ _ h => h) (v6) (fun w' => by simp [go_sem]) ?_
 simp only [Act.put, I2, I3, I4]
 rw [Nat.zero_add, List.nil_append] at o6
 refine eK (by kernel_rfl) ?_
 intro z99 b99 s99
 replace O := I5 (o6.after b99)
 have zG : ∀ k, v6.ownBlock = some k → k = ye ∨ z9.heap.size ≤ k := fun k hk => (n6 k hk).imp (fun e => by have h2 : ye = k := Option.some.inj e; omega) id
 have KD : Hid (∀ i (hi : i < ([at1 starL, at1 ranL, at1 (nameO vo)]).length), RdI (okO (fun b => b < B0 ∨ w.heap.size + 2 ≤ b) v6) z99 ((fun i => if i = 0 then (⟨sl, sh, cv, cq, cr, co, ci, cn, cu, cI, cj⟩ : SV) else if i = 1 then vD else vE) i) ([at1 starL, at1 ranL, at1 (nameO vo)])[i]) := I5 (fun i hi => match i, hi with | 0, _ => ((rr0.keep (w' := z6) (fun b hb => g6.block b (by have h1 : b < z7.heap.size := hb.2; omega) (fun e => by have h2 : b = ye := Option.some.inj e; exact hb.1.2 (by omega)))).mono (ok' := okO (fun b => b < B0 ∨ w.heap.size + 2 ≤ b) v6) (fun b hb => ⟨hb.1.1, fun e => (zG b e).elim (fun h1 => hb.1.2 h1) (fun h1 => by have h2 : b < z7.heap.size := hb.2; omega)⟩)).after b99 | 1, _ => ((rr1.keep (w' := z6) (fun b hb => g6.block b (by have h1 : b < z7.heap.size := hb.2; omega) (fun e => by have h2 : b = ye := Option.some.inj e; exact hb.1.2 (by omega)))).mono (ok' := okO (fun b => b < B0 ∨ w.heap.size + 2 ≤ b) v6) (fun b hb => ⟨hb.1.1, fun e => (zG b e).elim (fun h1 => hb.1.2 h1) (fun h1 => by have h2 : b < z7.heap.size := hb.2; omega)⟩)).after b99 | 2, _ => ((rr2.keep (w' := z6) (fun b hb => g6.block b (by have h1 : b < z7.heap.size := hb.2; omega) (fun e => by have h2 : b = ye := Option.some.inj e; exact hb.1.2 (by omega)))).mono (ok' := okO (fun b => b < B0 ∨ w.heap.size + 2 ≤ b) v6) (fun b hb => ⟨hb.1.1, fun e => (zG b e).elim (fun h1 => hb.1.2 h1) (fun h1 => by have h2 : b < z7.heap.size := hb.2; omega)⟩)).after b99)
 have X5 := I5 s99.1.1
 have Y5 := I5 s99.2.1
 replace B := s99.2.2
 generalize (fun i => if i = 0 then (⟨sl, sh, cv, cq, cr, co, ci, cn, cu, cI, cj⟩ : SV) else if i = 1 then vD else vE) = K0 at *
 clear aF X Y Z RS oa o9 o6 b99 s99 c9 g6 n6 zG DT DQ rr0 rr1 rr2
 go_wp2_with (refine ai rfl 25 _ rfl _ 4 rfl [.bool am, .bool ak, .slice aE aB aD] _ (Box.midR X5.out 4 [.bool am, .bool ak, .slice aE aB aD] rfl) Tryz.underlying25 rfl (by kernel_rfl) ?_)
 refine (jH am ak aE aB aD ll 103 B0 z99 (by have := B.size; omega) (ke.out.after B) pe.out).mono ?_
 rintro e b1w ⟨bv1, rfl, ⟨BK1, bo1, bk1⟩, bb1⟩
 have p7 := I5 (O.out.lt)
 replace O := I5 (O.out.after bb1)
 replace KD := I5 (fun i hi => (KD.out i hi).after bb1)
 have EI := B.size
 have DS := Y5.out.lt
 have BO1 := I5 bo1
 have BKK1 := I5 bk1
 have Ei : (bnd ⟨am, ak, ll⟩ 103).length ≤ 2 := lA _ _
 have En : z99.heap.size ≤ b1w.heap.size := bb1.size
 replace X5 := I5 (X5.out.after bb1)
 replace Y5 := I5 (Y5.out.after bb1)
 replace B := B.trans (bb1.mono B.size)
 clear bb1 bo1 bk1
 go_upto_region 15 with (refine bw rfl _ _ rfl rfl O.out rfl BO1.out.srcK (by omega) (by omega) ?_; intro av1 aw1 ao1 ag1 dV; rw [gg] at ao1)
 have KD1 : Hid (∀ i (hi : i < ([at1 starL, at1 ranL, at1 (nameO vo)] ++ bnd ⟨am, ak, ll⟩ 103).length), RdI (okO (fun b => b < B0 ∨ w.heap.size + 2 ≤ b) av1) aw1 _ ([at1 starL, at1 ranL, at1 (nameO vo)] ++ bnd ⟨am, ak, ll⟩ 103)[i]) := I5 (jF (n := 3) (by simp <;> omega) KD.out (fun i hi => (BKK1.out i hi).mono (fun b hb => by
   have h1 : b < B0 ∨ z99.heap.size ≤ b := hb.1
   exact ⟨by show b < B0 ∨ w.heap.size + 2 ≤ b; omega, fun e => by have h3 := p7.out b e; omega⟩)) ag1 dV)
 have OO1 := I5 ao1
 have Eu := ag1.size
 replace B := bX w.heap.size (by omega) (by omega) O.out ag1 B
 replace X5 := I5 (X5.out.grown ag1 (fun k hk => by have := p7.out k hk; omega))
 replace Y5 := I5 (Y5.out.grown ag1 (fun k hk => by have := p7.out k hk; omega))
 clear O KD ag1 ao1 BO1 BKK1 dV
 go_wp2_with (refine ai rfl 25 _ rfl _ 7 rfl [.bool ar, .bool aq, .slice aI aC aH] _ (Box.midR X5.out 7 [.bool ar, .bool aq, .slice aI aC aH] rfl) Tryz.underlying25 rfl (by kernel_rfl) ?_)
 refine (jH ar aq aI aC aH hl 108 B0 aw1 (by have := B.size; omega) (kf.out.after B) vB.out).mono ?_
 rintro e b2w ⟨bv2, rfl, ⟨BK2, bo2, bk2⟩, bb2⟩
 have rI := I5 (OO1.out.lt)
 replace OO1 := I5 (OO1.out.after bb2)
 replace KD1 := I5 (fun i hi => (KD1.out i hi).after bb2)
 have EH := B.size
 have Au := Y5.out.lt
 have BO2 := I5 bo2
 have BKK2 := I5 bk2
 have Eh : (bnd ⟨ar, aq, hl⟩ 108).length ≤ 2 := lA _ _
 have Em : aw1.heap.size ≤ b2w.heap.size := bb2.size
 replace X5 := I5 (X5.out.after bb2)
 replace Y5 := I5 (Y5.out.after bb2)
 replace B := B.trans (bb2.mono B.size)
 clear bb2 bo2 bk2
 go_upto_region 16 with (refine bw rfl _ _ rfl rfl OO1.out rfl BO2.out.srcK (by omega) (by omega) ?_; intro av2 aw2 ao2 ag2 dN; rw [gg] at ao2)
 have KD2 : Hid (∀ i (hi : i < (([at1 starL, at1 ranL, at1 (nameO vo)] ++ bnd ⟨am, ak, ll⟩ 103) ++ bnd ⟨ar, aq, hl⟩ 108).length), RdI (okO (fun b => b < B0 ∨ w.heap.size + 2 ≤ b) av2) aw2 _ (([at1 starL, at1 ranL, at1 (nameO vo)] ++ bnd ⟨am, ak, ll⟩ 103) ++ bnd ⟨ar, aq, hl⟩ 108)[i]) := I5 (jF (n := 3 + (bnd ⟨am, ak, ll⟩ 103).length) (by simp <;> omega) KD1.out (fun i hi => (BKK2.out i hi).mono (fun b hb => by
   have h1 : b < B0 ∨ aw1.heap.size ≤ b := hb.1
   exact ⟨by show b < B0 ∨ w.heap.size + 2 ≤ b; omega, fun e => by have h3 := rI.out b e; omega⟩)) ag2 dN)
 have OO2 := I5 ao2
 have Et := ag2.size
 replace B := bX w.heap.size (by omega) (by omega) OO1.out ag2 B
 replace X5 := I5 (X5.out.grown ag2 (fun k hk => by have := rI.out k hk; omega))
 replace Y5 := I5 (Y5.out.grown ag2 (fun k hk => by have := rI.out k hk; omega))
 obtain ⟨ra, rc, EJ, ah, jb⟩ := OO2.out.row
 subst EJ
 have RL : Hid (RdI (fun b => b < B0 ∨ w.heap.size + 2 ≤ b) aw2 ⟨true, false, none, 0, 0, none, 0, 0, ra, _, rc⟩ (li (([at1 starL, at1 ranL, at1 (nameO vo)] ++ bnd ⟨am, ak, ll⟩ 103) ++ bnd ⟨ar, aq, hl⟩ 108))) := I5 (gL ah (jb.mono (fun b hb => .inr hb)) (by simp; omega) (fun i hi => (KD2.out i hi).mono (fun b h => h.1)))
 clear ah KD2 OO2 KD1 OO1 ag2 ao2 dN BO2 BKK2
 generalize (3 + (bnd ⟨am, ak, ll⟩ 103).length) + (bnd ⟨ar, aq, hl⟩ 108).length = n9 at *
 go_wp2_with (refine ac (cells := #[.bool true, .bool false, .slice none 0 0, .slice none 0 0, .slice ra n9 rc]) rfl 32 _ _ rfl Y5.out (by rfl) (by rfl) rfl (by kernel_rfl) (by simp [Value.oneCell']) ?_; intro u9 X9 st9)
 have uk := Y5.out.lt
 have B9 := st9.below w.heap.size w (by omega) B
 have R9 : RdI (fun b => b < B0 ∨ w.heap.size ≤ b) u9 ⟨true, false, none, 0, 0, none, 0, 0, ra, n9, rc⟩ (ranV ⟨vo, ⟨am, ak, ll⟩, ⟨ar, aq, hl⟩⟩) := (RL.out.keep (w' := u9) (fun b hb => st9.other b (by have h1 : b < B0 ∨ w.heap.size + 2 ≤ b := hb; omega))).mono (fun b hb => by have h1 : b < B0 ∨ w.heap.size + 2 ≤ b := hb; show b < B0 ∨ w.heap.size ≤ b; omega)
 exact bodyPost_ret (v := .agg #[.bool true, .bool false, .slice none 0 0, .slice none 0 0, .slice ra n9 rc]) (ae rfl _ _ (by rfl) X9 Tryz.underlying32 rfl (by kernel_rfl)) rfl ⟨⟨true, false, none, 0, 0, none, 0, 0, ra, n9, rc⟩, rfl, R9, B9⟩
theorem I6 (t : Tg) : ∀ (v : TV) (m B0 : Nat) (w : World), B0 ≤ w.heap.size → RdT (fun b => b < B0) w v t → t.wide m = false → Calls Tryz.prog 26 #[v.val] w (ValI (fun b => b < B0 ∨ w.heap.size ≤ b) t.value w) := by
 induction t using Tg.ind with
 | h kd da ks r ih =>
  intro v m B0 w qd hr hw
  obtain ⟨_, g2, g3, g4, g5, g6⟩ := cy hw
  have IH := fun x hx (v : TV) (w : World) hB h => ih x hx v (m + 1) B0 w hB h (g6 x hx)
  rw [dd]
  by_cases h1 : kd = 1
  ·subst h1; exact lT v B0 w qd hr
  by_cases h2 : kd = 2
  ·subst h2; exact lS v B0 w qd hr
  by_cases h5 : kd = 5
  ·subst h5; exact lP v B0 w qd hr
  by_cases h6 : kd = 6
  ·subst h6; exact lO v B0 w qd hr
  by_cases h4 : kd = 4
  ·subst h4; exact lQ v B0 w qd hr IH g2
  ·rw [if_neg h1, if_neg h2, if_neg h5, if_neg h6, if_neg h4]
   exact lR v B0 w qd hr ⟨h1, h2, h4, h5, h6⟩ IH g2
theorem mV (t : Tg) (v : TV) (m B0 : Nat) (w : World) (h1 : B0 ≤ w.heap.size) (h2 : RdT (fun b => b < B0) w v t) (_ : t.ok = true) (h3 : t.wide m = false) : Calls Tryz.prog 26 #[v.val] w (ValI (fun b => b < B0 ∨ w.heap.size ≤ b) t.value w) := I6 t v m B0 w h1 h2 h3
end Go.Proofs.YtmmkaclmgnpplaaGreatDoor

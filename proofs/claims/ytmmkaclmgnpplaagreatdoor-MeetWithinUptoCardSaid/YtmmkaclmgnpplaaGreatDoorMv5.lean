import Derived.Test.YtmmkaclmgnpplaaGreatDoorMv4
set_option maxRecDepth 100000
set_option maxHeartbeats 64000000
set_option linter.unusedSimpArgs false
set_option linter.unusedVariables false
namespace Go.Proofs.YtmmkaclmgnpplaaGreatDoor
open Go.RowKit
theorem Jd : ∀ (n : Nat) (a b : Tg) (v : Sx), withinF n a b = true → a.allows v = true → b.allows v = true
 | 0, a, b, v, h, _ => by cases h
 | n + 1, a, b, v, h, hv => by
  unfold withinF at h
  split at h
  ·exact JT b v ‹_›
  split at h
  ·rename_i h4
   rw [Ji a v h4] at hv
   obtain ⟨k, hk, Er⟩ := List.any_eq_true.1 hv
   refine Jd n k b v ?_ Er
   cases hw : withinF n k b with
   | true => rfl
   | false =>
    have : (a.ks.any fun k => !withinF n k b) = true := List.any_eq_true.2 ⟨k, hk, by rw [hw]; rfl⟩
    rw [this] at h; cases h
  split at h
  ·rename_i h4
   obtain ⟨k, hk, hw⟩ := List.any_eq_true.1 h
   rw [Ji b v h4]
   exact List.any_eq_true.2 ⟨k, hk, Jd n a k v hw hv⟩
  split at h
  ·rename_i h3
   simp only [Bool.and_eq_true, decide_eq_true_eq] at h
   obtain ⟨hl, he⟩ := h
   obtain ⟨h1, h2, h5⟩ := (Jr a v h3.1).1 hv
   exact (Jr b v h3.2).2 ⟨h1, by omega, fun i hi => Jd n _ _ _ ((Jl hl).1 he i hi) (h5 i (by omega))⟩
  split at h
  ·rename_i h5
   rw [DD v (.inr (.inl h5.1))] at hv
   rw [DD v (.inr (.inl h5.2))]
   obtain ⟨h6, h7⟩ := JA hv
   rw [Js h5.1] at h7
   rw [Js h5.2, h6, JD h7 h]; rfl
  split at h
  ·rename_i h6
   rw [DD v (.inr (.inr h6.1))] at hv
   rw [DD v (.inr (.inr h6.2))]
   obtain ⟨h7, h8⟩ := JA hv
   rw [Jx h6.1] at h8
   rw [Jx h6.2, h7, JX a.r b.r v.da h h8]; rfl
  ·simp only [Bool.and_eq_true, decide_eq_true_eq] at h
   rw [DD v (.inl h.1)] at hv
   obtain ⟨h7, h8⟩ := JA hv
   rw [JY h.1] at h8
   rw [DD v (Kg h.2), h7, ← h8, h.2]; rfl
def Tg.within (a b : Tg) : Bool := a.may && (b.may && withinF (a.count + b.count) a b)
theorem Jv {a b : Tg} {v : Sx} (h : a.within b = true) (hv : a.grants v = true) : b.grants v = true := by
 unfold Tg.within at h
 unfold Tg.grants at *
 simp only [Bool.and_eq_true] at *
 exact ⟨h.2.1, hv.2.1, Jd _ a b v h.2.2 hv.2.2⟩
theorem JO {a b : Tg} (h : a.within b = true) : a.may = true ∧ b.may = true := by
 unfold Tg.within at h
 simp only [Bool.and_eq_true] at h
 exact ⟨h.1, h.2.1⟩
theorem JR (a : Tg) : a.within allT = a.may := by
 unfold Tg.within
 obtain ⟨n, hn⟩ : ∃ n, a.count + allT.count = n + 1 := ⟨a.count + allT.count - 1, by have := kV a; omega⟩
 rw [hn, Ko]
 unfold withinF
 rw [if_pos (show allT.kd = 1 from rfl)]
 simp
theorem Km : noT.may = true := by decide +kernel
theorem JI (b : Tg) : noT.within b = b.may := by
 unfold Tg.within
 obtain ⟨n, hn⟩ : ∃ n, noT.count + b.count = n + 1 := ⟨noT.count + b.count - 1, by have := kV b; omega⟩
 rw [hn, Km]
 unfold withinF
 rw [if_pos (show noT.kd = 4 from rfl)]
 simp [noT, Tg.ks]
theorem Jk (a b : Tg) (va vb : TV) (w : World) (ha : RdT (fun _ => True) w va a) (hb : RdT (fun _ => True) w vb b) (FX : a.wide 0 = false) (FW : b.wide 0 = false) (ht : Tab w) :
  Calls Tryz.prog 15 #[va.val, vb.val] w fun e w' => e = .returned (.bool (a.within b)) ∧ Below w.heap.size w w' := by
 have RA := I5 ha
 have RB := I5 hb
 have Gy := I5 FX
 have Gx := I5 FW
 have HT := I5 ht
 clear ha hb FX FW ht
 obtain ⟨R, hR⟩ : ∃ R, R = a.within b := ⟨_, rfl⟩
 rw [← hR]
 unfold Tg.within at hR
 have HD := I5 hR
 clear hR
 obtain ⟨du, eJ, dV, eI, eU, dN, eT, ao, dZ, dY, eF, ek, eE, d8, d7, eH, em, eG⟩ := va
 obtain ⟨dU, ej, fd, ft, fI, eS, fH, bo, eB, eA, fm, fe, fk, eD, eC, fq, ff, fp⟩ := vb
 obtain ⟨ma, Ej⟩ : ∃ m, m = a.may := ⟨_, rfl⟩
 obtain ⟨mb, uu⟩ : ∃ m, m = b.may := ⟨_, rfl⟩
 have DJ := I5 Ej
 have DI := I5 uu
 have Bp := I5 (fun w' (h : Below w.heap.size w w') => jQ a ⟨du, eJ, dV, eI, eU, dN, eT, ao, dZ, dY, eF, ek, eE, d8, d7, eH, em, eG⟩ 0 w' (RA.out.after h) Gy.out (HT.out.after h))
 rw [← Ej] at Bp HD
 have BP := I5 (fun w' (h : Below w.heap.size w w') => jQ b ⟨dU, ej, fd, ft, fI, eS, fH, bo, eB, eA, fm, fe, fk, eD, eC, fq, ff, fp⟩ 0 w' (RB.out.after h) Gx.out (HT.out.after h))
 rw [← uu] at BP HD
 clear Ej uu
 let x0 := ((w.alloc (.cells #[.int .u8 du, .slice eJ dV eI, .slice eU dN eT, .int .u8 ao, .bool dZ, .bool dY, .slice eF ek eE, .bool d8, .bool d7, .slice eH em eG] 29)).alloc (.cells #[.int .u8 dU, .slice ej fd ft, .slice fI eS fH, .int .u8 bo, .bool eB, .bool eA, .slice fm fe fk, .bool eD, .bool eC, .slice fq ff fp] 29))
 have B : Below w.heap.size w x0 := ((Below.refl _ _).alloc (Nat.le_refl _) _).alloc (by simp [x0, x0]) _
 have X : Hid (Box x0 w.heap.size 29 #[.int .u8 du, .slice eJ dV eI, .slice eU dN eT, .int .u8 ao, .bool dZ, .bool dY, .slice eF ek eE, .bool d8, .bool d7, .slice eH em eG]) := I5 ((Box.new _ _ _).alloc _)
 have Y : Hid (Box x0 (w.heap.size + 1) 29 #[.int .u8 dU, .slice ej fd ft, .slice fI eS fH, .int .u8 bo, .bool eB, .bool eA, .slice fm fe fk, .bool eD, .bool eC, .slice fq ff fp]) := I5 (by
  have := Box.new (w.alloc (.cells #[.int .u8 du, .slice eJ dV eI, .slice eU dN eT, .int .u8 ao, .bool dZ, .bool dY, .slice eF ek eE, .bool d8, .bool d7, .slice eH em eG] 29)) 29 #[.int .u8 dU, .slice ej fd ft, .slice fI eS fH, .int .u8 bo, .bool eB, .bool eA, .slice fm fe fk, .bool eD, .bool eC, .slice fq ff fp]
  simpa [x0] using this)
 simp only [TV.val]
 show Calls _ _ #[.agg #[.int .u8 du, .slice eJ dV eI, .slice eU dN eT, .int .u8 ao, .bool dZ, .bool dY, .slice eF ek eE, .bool d8, .bool d7, .slice eH em eG], .agg #[.int .u8 dU, .slice ej fd ft, .slice fI eS fH, .int .u8 bo, .bool eB, .bool eA, .slice fm fe fk, .bool eD, .bool eC, .slice fq ff fp]] _ _
 go_enter Tryz.func15, Tryz.ntmps15
 go_upto_region 1 with fail
 change Code.wp _ _ _ _ x0
 clear_value x0
 cases ma with
 | false =>
  go_step
  refine bC 11 x0.heap.size x0 (Below.refl _ _) ?_
  simp only [List.take_succ_cons, List.take_zero, List.drop_succ_cons, List.drop_zero]
  refine aU rfl 29 _ rfl X.out (by rfl) X.out.lt Tryz.underlying29 rfl (by kernel_rfl) ?_
  simp only [Act.put, I2, I3, I4]
  refine be rfl 20 #[.agg #[.int .u8 du, .slice eJ dV eI, .slice eU dN eT, .int .u8 ao, .bool dZ, .bool dY, .slice eF ek eE, .bool d8, .bool d7, .slice eH em eG]] (fun w' => by simp [go_sem]) (.bool false) (Nat.le_refl _) (fun w' hw => Bp.out w' (B.trans (hw.mono B.size))) ?_
  simp only [Act.put, I2, I3, I4]
  refine Lk (.bool false) ?_
  simp only [Act.put, I2, I3, I4]
  refine aj rfl ?_
  simp only [Act.put, I2, I3, I4]
  refine aj rfl ?_
  simp only [Act.put, I2, I3, I4]
  refine Lk (.bool false) ?_
  simp only [Act.put, I2, I3, I4]
  refine Lk (.bool false) ?_
  simp only [Act.put, I2, I3, I4]
  refine aj rfl ?_
  simp only [Act.put, I2, I3, I4]
  refine aj rfl ?_
  simp only [Act.put, I2, I3, I4]
  refine aj rfl ?_
  simp only [Act.put, I2, I3, I4]
  refine Lk (.bool false) ?_
  simp only [Act.put, I2, I3, I4]
  intro y1 af
  replace X := I5 (X.out.after af)
  replace Y := I5 (Y.out.after af)
  replace B := B.trans (af.mono B.size)
  clear af
  go_wp2_with fail
  go_ret
  exact ⟨by rw [HD.out] <;> rfl, B⟩
 | true =>
  cases mb with
  | false =>
   go_step
   refine bC 11 x0.heap.size x0 (Below.refl _ _) ?_
   simp only [List.take_succ_cons, List.take_zero, List.drop_succ_cons, List.drop_zero]
   refine aU rfl 29 _ rfl X.out (by rfl) X.out.lt Tryz.underlying29 rfl (by kernel_rfl) ?_
   simp only [Act.put, I2, I3, I4]
   refine be rfl 20 #[.agg #[.int .u8 du, .slice eJ dV eI, .slice eU dN eT, .int .u8 ao, .bool dZ, .bool dY, .slice eF ek eE, .bool d8, .bool d7, .slice eH em eG]] (fun w' => by simp [go_sem]) (.bool true) (Nat.le_refl _) (fun w' hw => Bp.out w' (B.trans (hw.mono B.size))) ?_
   simp only [Act.put, I2, I3, I4]
   refine Lk (.bool true) ?_
   simp only [Act.put, I2, I3, I4]
   refine aU rfl 29 _ rfl Y.out (by rfl) Y.out.lt Tryz.underlying29 rfl (by kernel_rfl) ?_
   simp only [Act.put, I2, I3, I4]
   refine be rfl 20 #[.agg #[.int .u8 dU, .slice ej fd ft, .slice fI eS fH, .int .u8 bo, .bool eB, .bool eA, .slice fm fe fk, .bool eD, .bool eC, .slice fq ff fp]] (fun w' => by simp [go_sem]) (.bool false) (Nat.le_refl _) (fun w' hw => BP.out w' (B.trans (hw.mono B.size))) ?_
   simp only [Act.put, I2, I3, I4]
   refine Lk (.bool false) ?_
   simp only [Act.put, I2, I3, I4]
   refine Lk (.bool false) ?_
   simp only [Act.put, I2, I3, I4]
   refine aj rfl ?_
   simp only [Act.put, I2, I3, I4]
   refine aj rfl ?_
   simp only [Act.put, I2, I3, I4]
   refine aj rfl ?_
   simp only [Act.put, I2, I3, I4]
   refine Lk (.bool false) ?_
   simp only [Act.put, I2, I3, I4]
   intro y1 af
   replace X := I5 (X.out.after af)
   replace Y := I5 (Y.out.after af)
   replace B := B.trans (af.mono B.size)
   clear af
   go_wp2_with fail
   go_ret
   exact ⟨by rw [HD.out] <;> rfl, B⟩
  | true =>
   have CW := I5 (fun w' (h : Below w.heap.size w w') => Jm (a.count + b.count) a b ⟨du, eJ, dV, eI, eU, dN, eT, ao, dZ, dY, eF, ek, eE, d8, d7, eH, em, eG⟩ ⟨dU, ej, fd, ft, fI, eS, fH, bo, eB, eA, fm, fe, fk, eD, eC, fq, ff, fp⟩ w' (Nat.le_refl _) (Fit.of_may Gy.out DJ.out.symm) (Fit.of_may Gx.out DI.out.symm) (RA.out.after h) (RB.out.after h))
   replace HD : Hid (R = withinF (a.count + b.count) a b) := I5 (by rw [HD.out]; simp)
   rw [← HD.out] at CW
   go_step
   refine bC 11 x0.heap.size x0 (Below.refl _ _) ?_
   simp only [List.take_succ_cons, List.take_zero, List.drop_succ_cons, List.drop_zero]
   refine aU rfl 29 _ rfl X.out (by rfl) X.out.lt Tryz.underlying29 rfl (by kernel_rfl) ?_
   simp only [Act.put, I2, I3, I4]
   refine be rfl 20 #[.agg #[.int .u8 du, .slice eJ dV eI, .slice eU dN eT, .int .u8 ao, .bool dZ, .bool dY, .slice eF ek eE, .bool d8, .bool d7, .slice eH em eG]] (fun w' => by simp [go_sem]) (.bool true) (Nat.le_refl _) (fun w' hw => Bp.out w' (B.trans (hw.mono B.size))) ?_
   simp only [Act.put, I2, I3, I4]
   refine Lk (.bool true) ?_
   simp only [Act.put, I2, I3, I4]
   refine aU rfl 29 _ rfl Y.out (by rfl) Y.out.lt Tryz.underlying29 rfl (by kernel_rfl) ?_
   simp only [Act.put, I2, I3, I4]
   refine be rfl 20 #[.agg #[.int .u8 dU, .slice ej fd ft, .slice fI eS fH, .int .u8 bo, .bool eB, .bool eA, .slice fm fe fk, .bool eD, .bool eC, .slice fq ff fp]] (fun w' => by simp [go_sem]) (.bool true) (Nat.le_refl _) (fun w' hw => BP.out w' (B.trans (hw.mono B.size))) ?_
   simp only [Act.put, I2, I3, I4]
   refine Lk (.bool true) ?_
   simp only [Act.put, I2, I3, I4]
   refine Lk (.bool true) ?_
   simp only [Act.put, I2, I3, I4]
   refine aU rfl 29 _ rfl X.out (by rfl) X.out.lt Tryz.underlying29 rfl (by kernel_rfl) ?_
   simp only [Act.put, I2, I3, I4]
   refine aU rfl 29 _ rfl Y.out (by rfl) Y.out.lt Tryz.underlying29 rfl (by kernel_rfl) ?_
   simp only [Act.put, I2, I3, I4]
   refine be rfl 33 #[.agg #[.int .u8 du, .slice eJ dV eI, .slice eU dN eT, .int .u8 ao, .bool dZ, .bool dY, .slice eF ek eE, .bool d8, .bool d7, .slice eH em eG], .agg #[.int .u8 dU, .slice ej fd ft, .slice fI eS fH, .int .u8 bo, .bool eB, .bool eA, .slice fm fe fk, .bool eD, .bool eC, .slice fq ff fp]] (fun w' => by simp [go_sem]) (.bool R) (Nat.le_refl _) (fun w' hw => CW.out w' (B.trans (hw.mono B.size))) ?_
   simp only [Act.put, I2, I3, I4]
   refine Lk (.bool R) ?_
   simp only [Act.put, I2, I3, I4]
   intro y1 af
   replace X := I5 (X.out.after af)
   replace Y := I5 (Y.out.after af)
   replace B := B.trans (af.mono B.size)
   clear af
   go_wp2_with fail
   go_ret
   exact ⟨rfl, B⟩
theorem MeetWithin_walk (u0 : TV) (s0 : Tg) (u1 : TV) (s1 : Tg) (u2 : SV) (s2 : Sx) (w : World) (wy : Tab w) (h0 : RdT (fun _ => True) w u0 s0) (b0 : s0.count < 4611686018427387904) (h1 : RdT (fun _ => True) w u1 s1) (b1 : s1.count < 4611686018427387904) (h2 : Rd w u2 s2) (b2 : s2.nodes < 4611686018427387904) :
  Calls Tryz.prog 5 #[u0.val, u1.val, u2.val] w fun e w' => e = .returned (.bool true) ∧ Below w.heap.size w w' := by
 have Dc := I5 h0
 have nW := I5 h1
 have zX := I5 h2
 have HT := I5 wy
 have Ih := I5 b0
 have ep := I5 b1
 have iu := I5 b2
 clear h0 h1 h2 wy b0 b1 b2
 obtain ⟨du, eJ, dV, eI, eU, dN, eT, ao, dZ, dY, eF, ek, eE, d8, d7, eH, em, eG⟩ := u0
 obtain ⟨dU, ej, fd, ft, fI, eS, fH, bo, eB, eA, fm, fe, fk, eD, eC, fq, ff, fp⟩ := u1
 obtain ⟨sl, sh, cv, cq, cr, co, ci, cn, cu, cI, cj⟩ := u2
 have B : Below w.heap.size w (((w.alloc (.cells #[.int .u8 du, .slice eJ dV eI, .slice eU dN eT, .int .u8 ao, .bool dZ, .bool dY, .slice eF ek eE, .bool d8, .bool d7, .slice eH em eG] 29)).alloc (.cells #[.int .u8 dU, .slice ej fd ft, .slice fI eS fH, .int .u8 bo, .bool eB, .bool eA, .slice fm fe fk, .bool eD, .bool eC, .slice fq ff fp] 29)).alloc (.cells #[.bool sl, .bool sh, .slice cv cq cr, .slice co ci cn, .slice cu cI cj] 32)) := (((Below.refl _ _).alloc (Nat.le_refl _) _).alloc (by simp) _).alloc (by simp; omega) _
 have X : Hid (Box (((w.alloc (.cells #[.int .u8 du, .slice eJ dV eI, .slice eU dN eT, .int .u8 ao, .bool dZ, .bool dY, .slice eF ek eE, .bool d8, .bool d7, .slice eH em eG] 29)).alloc (.cells #[.int .u8 dU, .slice ej fd ft, .slice fI eS fH, .int .u8 bo, .bool eB, .bool eA, .slice fm fe fk, .bool eD, .bool eC, .slice fq ff fp] 29)).alloc (.cells #[.bool sl, .bool sh, .slice cv cq cr, .slice co ci cn, .slice cu cI cj] 32)) w.heap.size 29 #[.int .u8 du, .slice eJ dV eI, .slice eU dN eT, .int .u8 ao, .bool dZ, .bool dY, .slice eF ek eE, .bool d8, .bool d7, .slice eH em eG]) := I5 (((Box.new _ _ _).alloc _).alloc _)
 have Y : Hid (Box (((w.alloc (.cells #[.int .u8 du, .slice eJ dV eI, .slice eU dN eT, .int .u8 ao, .bool dZ, .bool dY, .slice eF ek eE, .bool d8, .bool d7, .slice eH em eG] 29)).alloc (.cells #[.int .u8 dU, .slice ej fd ft, .slice fI eS fH, .int .u8 bo, .bool eB, .bool eA, .slice fm fe fk, .bool eD, .bool eC, .slice fq ff fp] 29)).alloc (.cells #[.bool sl, .bool sh, .slice cv cq cr, .slice co ci cn, .slice cu cI cj] 32)) (w.heap.size + 1) 29 #[.int .u8 dU, .slice ej fd ft, .slice fI eS fH, .int .u8 bo, .bool eB, .bool eA, .slice fm fe fk, .bool eD, .bool eC, .slice fq ff fp]) := I5 (by
  have := (Box.new (w.alloc (.cells #[.int .u8 du, .slice eJ dV eI, .slice eU dN eT, .int .u8 ao, .bool dZ, .bool dY, .slice eF ek eE, .bool d8, .bool d7, .slice eH em eG] 29)) 29 #[.int .u8 dU, .slice ej fd ft, .slice fI eS fH, .int .u8 bo, .bool eB, .bool eA, .slice fm fe fk, .bool eD, .bool eC, .slice fq ff fp]).alloc (.cells #[.bool sl, .bool sh, .slice cv cq cr, .slice co ci cn, .slice cu cI cj] 32)
  simpa using this)
 have V : Hid (Box (((w.alloc (.cells #[.int .u8 du, .slice eJ dV eI, .slice eU dN eT, .int .u8 ao, .bool dZ, .bool dY, .slice eF ek eE, .bool d8, .bool d7, .slice eH em eG] 29)).alloc (.cells #[.int .u8 dU, .slice ej fd ft, .slice fI eS fH, .int .u8 bo, .bool eB, .bool eA, .slice fm fe fk, .bool eD, .bool eC, .slice fq ff fp] 29)).alloc (.cells #[.bool sl, .bool sh, .slice cv cq cr, .slice co ci cn, .slice cu cI cj] 32)) (w.heap.size + 2) 32 #[.bool sl, .bool sh, .slice cv cq cr, .slice co ci cn, .slice cu cI cj]) := I5 (by
  have := Box.new ((w.alloc (.cells #[.int .u8 du, .slice eJ dV eI, .slice eU dN eT, .int .u8 ao, .bool dZ, .bool dY, .slice eF ek eE, .bool d8, .bool d7, .slice eH em eG] 29)).alloc (.cells #[.int .u8 dU, .slice ej fd ft, .slice fI eS fH, .int .u8 bo, .bool eB, .bool eA, .slice fm fe fk, .bool eD, .bool eC, .slice fq ff fp] 29)) 32 #[.bool sl, .bool sh, .slice cv cq cr, .slice co ci cn, .slice cu cI cj]
  simpa using this)
 obtain ⟨g0, Ez⟩ : ∃ b, b = greatB s0 s1 := ⟨_, rfl⟩
 obtain ⟨g1, m7⟩ : ∃ b, b = s2.great 0 := ⟨_, rfl⟩
 have G0 := I5 Ez
 have G1 := I5 m7
 have C0 := I5 (fun w' (h : Below w.heap.size w w') => JJ s0 s1 ⟨du, eJ, dV, eI, eU, dN, eT, ao, dZ, dY, eF, ek, eE, d8, d7, eH, em, eG⟩ ⟨dU, ej, fd, ft, fI, eS, fH, bo, eB, eA, fm, fe, fk, eD, eC, fq, ff, fp⟩ w' (Dc.out.after h) (nW.out.after h) Ih.out ep.out)
 have C1 := I5 (fun w' (h : Below w.heap.size w w') => uA s2 ⟨sl, sh, cv, cq, cr, co, ci, cn, cu, cI, cj⟩ 0 w' (zX.out.after h) (by omega))
 rw [← Ez] at C0
 rw [← m7] at C1
 clear Ez m7
 simp only [TV.val, SV.val]
 show Calls _ _ #[.agg #[.int .u8 du, .slice eJ dV eI, .slice eU dN eT, .int .u8 ao, .bool dZ, .bool dY, .slice eF ek eE, .bool d8, .bool d7, .slice eH em eG], .agg #[.int .u8 dU, .slice ej fd ft, .slice fI eS fH, .int .u8 bo, .bool eB, .bool eA, .slice fm fe fk, .bool eD, .bool eC, .slice fq ff fp], .agg #[.bool sl, .bool sh, .slice cv cq cr, .slice co ci cn, .slice cu cI cj]] _ _
 go_enter Tryz.func5, Tryz.ntmps5
 go_upto_region 1 with fail
 change Code.wp _ _ _ _ (((w.alloc (.cells #[.int .u8 du, .slice eJ dV eI, .slice eU dN eT, .int .u8 ao, .bool dZ, .bool dY, .slice eF ek eE, .bool d8, .bool d7, .slice eH em eG] 29)).alloc (.cells #[.int .u8 dU, .slice ej fd ft, .slice fI eS fH, .int .u8 bo, .bool eB, .bool eA, .slice fm fe fk, .bool eD, .bool eC, .slice fq ff fp] 29)).alloc (.cells #[.bool sl, .bool sh, .slice cv cq cr, .slice co ci cn, .slice cu cI cj] 32))
 generalize (((w.alloc (.cells #[.int .u8 du, .slice eJ dV eI, .slice eU dN eT, .int .u8 ao, .bool dZ, .bool dY, .slice eF ek eE, .bool d8, .bool d7, .slice eH em eG] 29)).alloc (.cells #[.int .u8 dU, .slice ej fd ft, .slice fI eS fH, .int .u8 bo, .bool eB, .bool eA, .slice fm fe fk, .bool eD, .bool eC, .slice fq ff fp] 29)).alloc (.cells #[.bool sl, .bool sh, .slice cv cq cr, .slice co ci cn, .slice cu cI cj] 32)) = x0 at *
 cases g0 with
 | true =>
  go_step
  refine bC 7 x0.heap.size x0 (Below.refl _ _) ?_
  simp only [List.take_succ_cons, List.take_zero, List.drop_succ_cons, List.drop_zero]
  refine aU rfl 29 _ rfl X.out (by rfl) X.out.lt Tryz.underlying29 rfl (by kernel_rfl) ?_
  simp only [Act.put, I2, I3, I4]
  refine aU rfl 29 _ rfl Y.out (by rfl) Y.out.lt Tryz.underlying29 rfl (by kernel_rfl) ?_
  simp only [Act.put, I2, I3, I4]
  refine be rfl 11 #[.agg #[.int .u8 du, .slice eJ dV eI, .slice eU dN eT, .int .u8 ao, .bool dZ, .bool dY, .slice eF ek eE, .bool d8, .bool d7, .slice eH em eG], .agg #[.int .u8 dU, .slice ej fd ft, .slice fI eS fH, .int .u8 bo, .bool eB, .bool eA, .slice fm fe fk, .bool eD, .bool eC, .slice fq ff fp]] (fun w' => by simp [go_sem]) (.bool true) (Nat.le_refl _) (fun w' hw => C0.out w' (B.trans (hw.mono B.size))) ?_
  simp only [Act.put, I2, I3, I4]
  refine Lk (.bool true) ?_
  simp only [Act.put, I2, I3, I4]
  refine aj rfl ?_
  simp only [Act.put, I2, I3, I4]
  refine aj rfl ?_
  simp only [Act.put, I2, I3, I4]
  refine Lk (.bool true) ?_
  simp only [Act.put, I2, I3, I4]
  intro y1 af
  replace X := I5 (X.out.after af)
  replace Y := I5 (Y.out.after af)
  replace V := I5 (V.out.after af)
  replace B := B.trans (af.mono B.size)
  clear af
  clear C0 C1
  go_wp2_with fail
  refine (ir y1 (HT.out.after B)).mono ?_
  rintro e x2 ⟨rfl, Jn⟩
  replace X := I5 (X.out.after Jn)
  replace Y := I5 (Y.out.after Jn)
  replace V := I5 (V.out.after Jn)
  replace B := B.trans (Jn.mono B.size)
  clear Jn
  go_wp2_with fail
  go_ret
  exact ⟨rfl, B⟩
 | false =>
  cases g1 with
  | true =>
   go_step
   refine bC 7 x0.heap.size x0 (Below.refl _ _) ?_
   simp only [List.take_succ_cons, List.take_zero, List.drop_succ_cons, List.drop_zero]
   refine aU rfl 29 _ rfl X.out (by rfl) X.out.lt Tryz.underlying29 rfl (by kernel_rfl) ?_
   simp only [Act.put, I2, I3, I4]
   refine aU rfl 29 _ rfl Y.out (by rfl) Y.out.lt Tryz.underlying29 rfl (by kernel_rfl) ?_
   simp only [Act.put, I2, I3, I4]
   refine be rfl 11 #[.agg #[.int .u8 du, .slice eJ dV eI, .slice eU dN eT, .int .u8 ao, .bool dZ, .bool dY, .slice eF ek eE, .bool d8, .bool d7, .slice eH em eG], .agg #[.int .u8 dU, .slice ej fd ft, .slice fI eS fH, .int .u8 bo, .bool eB, .bool eA, .slice fm fe fk, .bool eD, .bool eC, .slice fq ff fp]] (fun w' => by simp [go_sem]) (.bool false) (Nat.le_refl _) (fun w' hw => C0.out w' (B.trans (hw.mono B.size))) ?_
   simp only [Act.put, I2, I3, I4]
   refine Lk (.bool false) ?_
   simp only [Act.put, I2, I3, I4]
   refine aU rfl 32 _ rfl V.out (by rfl) V.out.lt Tryz.underlying32 rfl (by kernel_rfl) ?_
   simp only [Act.put, I2, I3, I4]
   refine be rfl 7 #[.agg #[.bool sl, .bool sh, .slice cv cq cr, .slice co ci cn, .slice cu cI cj], .int .i64 0] (fun w' => by simp [go_sem]) (.bool true) (Nat.le_refl _) (fun w' hw => C1.out w' (B.trans (hw.mono B.size))) ?_
   simp only [Act.put, I2, I3, I4]
   refine Lk (.bool true) ?_
   simp only [Act.put, I2, I3, I4]
   intro y1 af
   replace X := I5 (X.out.after af)
   replace Y := I5 (Y.out.after af)
   replace V := I5 (V.out.after af)
   replace B := B.trans (af.mono B.size)
   clear af
   clear C0 C1
   go_wp2_with fail
   refine (ir y1 (HT.out.after B)).mono ?_
   rintro e x2 ⟨rfl, Jn⟩
   replace X := I5 (X.out.after Jn)
   replace Y := I5 (Y.out.after Jn)
   replace V := I5 (V.out.after Jn)
   replace B := B.trans (Jn.mono B.size)
   clear Jn
   go_wp2_with fail
   go_ret
   exact ⟨rfl, B⟩
  | false =>
   go_step
   refine bC 7 x0.heap.size x0 (Below.refl _ _) ?_
   simp only [List.take_succ_cons, List.take_zero, List.drop_succ_cons, List.drop_zero]
   refine aU rfl 29 _ rfl X.out (by rfl) X.out.lt Tryz.underlying29 rfl (by kernel_rfl) ?_
   simp only [Act.put, I2, I3, I4]
   refine aU rfl 29 _ rfl Y.out (by rfl) Y.out.lt Tryz.underlying29 rfl (by kernel_rfl) ?_
   simp only [Act.put, I2, I3, I4]
   refine be rfl 11 #[.agg #[.int .u8 du, .slice eJ dV eI, .slice eU dN eT, .int .u8 ao, .bool dZ, .bool dY, .slice eF ek eE, .bool d8, .bool d7, .slice eH em eG], .agg #[.int .u8 dU, .slice ej fd ft, .slice fI eS fH, .int .u8 bo, .bool eB, .bool eA, .slice fm fe fk, .bool eD, .bool eC, .slice fq ff fp]] (fun w' => by simp [go_sem]) (.bool false) (Nat.le_refl _) (fun w' hw => C0.out w' (B.trans (hw.mono B.size))) ?_
   simp only [Act.put, I2, I3, I4]
   refine Lk (.bool false) ?_
   simp only [Act.put, I2, I3, I4]
   refine aU rfl 32 _ rfl V.out (by rfl) V.out.lt Tryz.underlying32 rfl (by kernel_rfl) ?_
   simp only [Act.put, I2, I3, I4]
   refine be rfl 7 #[.agg #[.bool sl, .bool sh, .slice cv cq cr, .slice co ci cn, .slice cu cI cj], .int .i64 0] (fun w' => by simp [go_sem]) (.bool false) (Nat.le_refl _) (fun w' hw => C1.out w' (B.trans (hw.mono B.size))) ?_
   simp only [Act.put, I2, I3, I4]
   refine Lk (.bool false) ?_
   simp only [Act.put, I2, I3, I4]
   intro y1 af
   replace X := I5 (X.out.after af)
   replace Y := I5 (Y.out.after af)
   replace V := I5 (V.out.after af)
   replace B := B.trans (af.mono B.size)
   clear af
   clear C0 C1
   obtain ⟨DW, EF⟩ := uB (Jy G0.out.symm).1 Ih.out
   obtain ⟨zF, o7⟩ := uB (Jy G0.out.symm).2 ep.out
   obtain ⟨oO, zL⟩ := qf G1.out.symm iu.out
   obtain ⟨I, hI⟩ : ∃ b, b = s0.within s1 := ⟨_, rfl⟩
   obtain ⟨A, hA⟩ : ∃ b, b = s0.grants s2 := ⟨_, rfl⟩
   obtain ⟨ma, Ej⟩ : ∃ b, b = s0.may := ⟨_, rfl⟩
   obtain ⟨mb, uu⟩ : ∃ b, b = s1.may := ⟨_, rfl⟩
   obtain ⟨D, hD⟩ : ∃ b, b = s1.grants s2 := ⟨_, rfl⟩
   have CI := I5 (fun w' (h : Below w.heap.size w w') => Jk s0 s1 ⟨du, eJ, dV, eI, eU, dN, eT, ao, dZ, dY, eF, ek, eE, d8, d7, eH, em, eG⟩ ⟨dU, ej, fd, ft, fI, eS, fH, bo, eB, eA, fm, fe, fk, eD, eC, fq, ff, fp⟩ w' (Dc.out.after h) (nW.out.after h) DW zF (HT.out.after h))
   rw [← hI] at CI
   have CA := I5 (fun w' (h : Below w.heap.size w w') => sw s0 s2 ⟨du, eJ, dV, eI, eU, dN, eT, ao, dZ, dY, eF, ek, eE, d8, d7, eH, em, eG⟩ ⟨sl, sh, cv, cq, cr, co, ci, cn, cu, cI, cj⟩ w' (Dc.out.after h) (zX.out.after h) DW oO (HT.out.after h))
   rw [← hA] at CA
   have CD := I5 (fun w' (h : Below w.heap.size w w') => sw s1 s2 ⟨dU, ej, fd, ft, fI, eS, fH, bo, eB, eA, fm, fe, fk, eD, eC, fq, ff, fp⟩ ⟨sl, sh, cv, cq, cr, co, ci, cn, cu, cI, cj⟩ w' (nW.out.after h) (zX.out.after h) zF oO (HT.out.after h))
   rw [← hD] at CD
   have Bp := I5 (fun w' (h : Below w.heap.size w w') => pJ s0 ⟨du, eJ, dV, eI, eU, dN, eT, ao, dZ, dY, eF, ek, eE, d8, d7, eH, em, eG⟩ 0 w' (Dc.out.after h) DW (by omega))
   rw [← Ej] at Bp
   have BP := I5 (fun w' (h : Below w.heap.size w w') => pJ s1 ⟨dU, ej, fd, ft, fI, eS, fH, bo, eB, eA, fm, fe, fk, eD, eC, fq, ff, fp⟩ 0 w' (nW.out.after h) zF (by omega))
   rw [← uu] at BP
   have KS := I5 (fun w' (h : Below w.heap.size w w') => (show Calls Tryz.prog 15 #[.agg #[.int .u8 du, .slice eJ dV eI, .slice eU dN eT, .int .u8 ao, .bool dZ, .bool dY, .slice eF ek eE, .bool d8, .bool d7, .slice eH em eG], .agg #[.int .u8 1, .slice none 0 0, .slice none 0 0, .int .u8 0, .bool false, .bool false, .slice none 0 0, .bool false, .bool false, .slice none 0 0]] w' (fun e w2 => e = .returned (.bool (s0.within allT)) ∧ Below w'.heap.size w' w2) from Jk s0 allT ⟨du, eJ, dV, eI, eU, dN, eT, ao, dZ, dY, eF, ek, eE, d8, d7, eH, em, eG⟩ ⟨1, none, 0, 0, none, 0, 0, 0, false, false, none, 0, 0, false, false, none, 0, 0⟩ w' (Dc.out.after h) (iB _ _ 1 (by omega) none 0 0 [] (Sl.nil _) (.inl rfl)) DW Kl (HT.out.after h)))
   rw [JR, ← Ej] at KS
   have KR := I5 (fun w' (h : Below w.heap.size w w') => (show Calls Tryz.prog 15 #[.agg #[.int .u8 4, .slice none 0 0, .slice none 0 0, .int .u8 0, .bool false, .bool false, .slice none 0 0, .bool false, .bool false, .slice none 0 0], .agg #[.int .u8 dU, .slice ej fd ft, .slice fI eS fH, .int .u8 bo, .bool eB, .bool eA, .slice fm fe fk, .bool eD, .bool eC, .slice fq ff fp]] w' (fun e w2 => e = .returned (.bool (noT.within s1)) ∧ Below w'.heap.size w' w2) from Jk noT s1 ⟨4, none, 0, 0, none, 0, 0, 0, false, false, none, 0, 0, false, false, none, 0, 0⟩ ⟨dU, ej, fd, ft, fI, eS, fH, bo, eB, eA, fm, fe, fk, eD, eC, fq, ff, fp⟩ w' (iB _ _ 4 (by omega) none 0 0 [] (Sl.nil _) (.inl rfl)) (nW.out.after h) mc zF (HT.out.after h)))
   rw [JI, ← uu] at KR
   have CK := I5 (fun w' (h : Below w.heap.size w w') => ir w' (HT.out.after h))
   have Li : Hid (I = true → A = true → D = true) := I5 (fun h1 h2 => by rw [hD]; exact Jv (hI.symm.trans h1) (hA.symm.trans h2))
   have Lh : Hid (I = true → ma = true ∧ mb = true) := I5 (fun h1 => by rw [Ej, uu]; exact JO (hI.symm.trans h1))
   clear DW zF oO EF o7 zL hI hA Ej uu hD Dc nW zX G0 G1
   go_wp2_with first | (refine ab rfl 29 _ rfl X.out (by rfl) Tryz.underlying29 rfl (by kernel_rfl) ?_) | (refine ab rfl 29 _ rfl Y.out (by rfl) Tryz.underlying29 rfl (by kernel_rfl) ?_)
   refine (CI.out y1 B).mono ?_
   rintro e x2 ⟨rfl, Jn⟩
   replace X := I5 (X.out.after Jn)
   replace Y := I5 (Y.out.after Jn)
   replace V := I5 (V.out.after Jn)
   replace B := B.trans (Jn.mono B.size)
   clear Jn
   clear CI
   cases I with
   | false =>
    go_upto_region 4 with fail
    go_step
    refine bC 12 x2.heap.size x2 (Below.refl _ _) ?_
    simp only [List.take_succ_cons, List.take_zero, List.drop_succ_cons, List.drop_zero]
    refine Lk (.bool false) ?_
    simp only [Act.put, I2, I3, I4]
    refine Lk (.bool false) ?_
    simp only [Act.put, I2, I3, I4]
    refine aj rfl ?_
    simp only [Act.put, I2, I3, I4]
    refine aj rfl ?_
    simp only [Act.put, I2, I3, I4]
    refine aj rfl ?_
    simp only [Act.put, I2, I3, I4]
    refine Lk (.bool false) ?_
    simp only [Act.put, I2, I3, I4]
    refine Lk (.bool false) ?_
    simp only [Act.put, I2, I3, I4]
    refine aj rfl ?_
    simp only [Act.put, I2, I3, I4]
    refine aj rfl ?_
    simp only [Act.put, I2, I3, I4]
    refine aj rfl ?_
    simp only [Act.put, I2, I3, I4]
    refine aj rfl ?_
    simp only [Act.put, I2, I3, I4]
    refine Lk (.bool false) ?_
    simp only [Act.put, I2, I3, I4]
    intro y3 bK
    replace X := I5 (X.out.after bK)
    replace Y := I5 (Y.out.after bK)
    replace V := I5 (V.out.after bK)
    replace B := B.trans (bK.mono B.size)
    clear bK
    go_upto_region 6 with fail
    refine aP y3.heap.size y3 rfl (by kernel_rfl) (Below.refl _ _) ?_
    refine Lk (.bool false) ?_
    simp only [Act.put, I2, I3, I4]
    refine Lk (.bool false) ?_
    simp only [Act.put, I2, I3, I4]
    refine aj rfl ?_
    simp only [Act.put, I2, I3, I4]
    refine aj rfl ?_
    simp only [Act.put, I2, I3, I4]
    refine aj rfl ?_
    simp only [Act.put, I2, I3, I4]
    refine aj rfl ?_
    simp only [Act.put, I2, I3, I4]
    refine aj rfl ?_
    simp only [Act.put, I2, I3, I4]
    refine aj rfl ?_
    simp only [Act.put, I2, I3, I4]
    refine aj rfl ?_
    simp only [Act.put, I2, I3, I4]
    refine aj rfl ?_
    simp only [Act.put, I2, I3, I4]
    refine Lk (.bool false) ?_
    simp only [Act.put, I2, I3, I4]
    refine Lk (.bool false) ?_
    simp only [Act.put, I2, I3, I4]
    refine aU rfl 29 _ rfl X.out (by rfl) X.out.lt Tryz.underlying29 rfl (by kernel_rfl) ?_
    simp only [Act.put, I2, I3, I4]
    refine aa rfl (.agg #[.int .u8 1, .slice none 0 0, .slice none 0 0, .int .u8 0, .bool false, .bool false, .slice none 0 0, .bool false, .bool false, .slice none 0 0]) (fun w' hw => by simp [go_sem] <;> rfl) ?_
    simp only [Act.put, I2, I3, I4]
    refine be rfl 15 #[.agg #[.int .u8 du, .slice eJ dV eI, .slice eU dN eT, .int .u8 ao, .bool dZ, .bool dY, .slice eF ek eE, .bool d8, .bool d7, .slice eH em eG], .agg #[.int .u8 1, .slice none 0 0, .slice none 0 0, .int .u8 0, .bool false, .bool false, .slice none 0 0, .bool false, .bool false, .slice none 0 0]] (fun w' => by simp [go_sem]) (.bool ma) (Nat.le_refl _) (fun w' hw => KS.out w' (B.trans (hw.mono B.size))) ?_
    simp only [Act.put, I2, I3, I4]
    refine aU rfl 29 _ rfl X.out (by rfl) X.out.lt Tryz.underlying29 rfl (by kernel_rfl) ?_
    simp only [Act.put, I2, I3, I4]
    refine be rfl 12 #[.agg #[.int .u8 du, .slice eJ dV eI, .slice eU dN eT, .int .u8 ao, .bool dZ, .bool dY, .slice eF ek eE, .bool d8, .bool d7, .slice eH em eG]] (fun w' => by simp [go_sem]) (.bool ma) (Nat.le_refl _) (fun w' hw => Bp.out w' (B.trans (hw.mono B.size))) ?_
    simp only [Act.put, I2, I3, I4]
    refine Lk (.bool false) ?_
    simp only [Act.put, I2, I3, I4]
    refine Lk (.bool false) ?_
    simp only [Act.put, I2, I3, I4]
    intro z4 GX
    replace X := I5 (X.out.after GX)
    replace Y := I5 (Y.out.after GX)
    replace V := I5 (V.out.after GX)
    replace B := B.trans (GX.mono B.size)
    clear GX
    go_upto_region 8 with fail
    cases mb with
    | false =>
     go_step
     refine bC 11 z4.heap.size z4 (Below.refl _ _) ?_
     simp only [List.take_succ_cons, List.take_zero, List.drop_succ_cons, List.drop_zero]
     refine aU rfl 29 _ rfl Y.out (by rfl) Y.out.lt Tryz.underlying29 rfl (by kernel_rfl) ?_
     simp only [Act.put, I2, I3, I4]
     refine be rfl 12 #[.agg #[.int .u8 dU, .slice ej fd ft, .slice fI eS fH, .int .u8 bo, .bool eB, .bool eA, .slice fm fe fk, .bool eD, .bool eC, .slice fq ff fp]] (fun w' => by simp [go_sem]) (.bool false) (Nat.le_refl _) (fun w' hw => BP.out w' (B.trans (hw.mono B.size))) ?_
     simp only [Act.put, I2, I3, I4]
     refine Lk (.bool true) ?_
     simp only [Act.put, I2, I3, I4]
     refine Lk (.bool true) ?_
     simp only [Act.put, I2, I3, I4]
     refine aj rfl ?_
     simp only [Act.put, I2, I3, I4]
     refine aj rfl ?_
     simp only [Act.put, I2, I3, I4]
     refine aj rfl ?_
     simp only [Act.put, I2, I3, I4]
     refine Lk (.bool true) ?_
     simp only [Act.put, I2, I3, I4]
     refine Lk (.bool true) ?_
     simp only [Act.put, I2, I3, I4]
     refine be rfl 8 #[] (fun w' => by simp [go_sem]) (.bool true) (Nat.le_refl _) (fun w' hw => CK.out w' (B.trans (hw.mono B.size))) ?_
     simp only [Act.put, I2, I3, I4]
     refine Lk (.bool true) ?_
     simp only [Act.put, I2, I3, I4]
     intro y5 Jh
     replace X := I5 (X.out.after Jh)
     replace Y := I5 (Y.out.after Jh)
     replace V := I5 (V.out.after Jh)
     replace B := B.trans (Jh.mono B.size)
     clear Jh
     go_wp2_with fail
     go_ret
     exact ⟨rfl, B⟩
    | true =>
     go_step
     refine bC 11 z4.heap.size z4 (Below.refl _ _) ?_
     simp only [List.take_succ_cons, List.take_zero, List.drop_succ_cons, List.drop_zero]
     refine aU rfl 29 _ rfl Y.out (by rfl) Y.out.lt Tryz.underlying29 rfl (by kernel_rfl) ?_
     simp only [Act.put, I2, I3, I4]
     refine be rfl 12 #[.agg #[.int .u8 dU, .slice ej fd ft, .slice fI eS fH, .int .u8 bo, .bool eB, .bool eA, .slice fm fe fk, .bool eD, .bool eC, .slice fq ff fp]] (fun w' => by simp [go_sem]) (.bool true) (Nat.le_refl _) (fun w' hw => BP.out w' (B.trans (hw.mono B.size))) ?_
     simp only [Act.put, I2, I3, I4]
     refine Lk (.bool false) ?_
     simp only [Act.put, I2, I3, I4]
     refine Lk (.bool false) ?_
     simp only [Act.put, I2, I3, I4]
     refine aa rfl (.agg #[.int .u8 4, .slice none 0 0, .slice none 0 0, .int .u8 0, .bool false, .bool false, .slice none 0 0, .bool false, .bool false, .slice none 0 0]) (fun w' hw => by simp [go_sem] <;> rfl) ?_
     simp only [Act.put, I2, I3, I4]
     refine aU rfl 29 _ rfl Y.out (by rfl) Y.out.lt Tryz.underlying29 rfl (by kernel_rfl) ?_
     simp only [Act.put, I2, I3, I4]
     refine be rfl 15 #[.agg #[.int .u8 4, .slice none 0 0, .slice none 0 0, .int .u8 0, .bool false, .bool false, .slice none 0 0, .bool false, .bool false, .slice none 0 0], .agg #[.int .u8 dU, .slice ej fd ft, .slice fI eS fH, .int .u8 bo, .bool eB, .bool eA, .slice fm fe fk, .bool eD, .bool eC, .slice fq ff fp]] (fun w' => by simp [go_sem]) (.bool true) (Nat.le_refl _) (fun w' hw => KR.out w' (B.trans (hw.mono B.size))) ?_
     simp only [Act.put, I2, I3, I4]
     refine Lk (.bool true) ?_
     simp only [Act.put, I2, I3, I4]
     refine Lk (.bool true) ?_
     simp only [Act.put, I2, I3, I4]
     refine be rfl 8 #[] (fun w' => by simp [go_sem]) (.bool true) (Nat.le_refl _) (fun w' hw => CK.out w' (B.trans (hw.mono B.size))) ?_
     simp only [Act.put, I2, I3, I4]
     refine Lk (.bool true) ?_
     simp only [Act.put, I2, I3, I4]
     intro y5 Jh
     replace X := I5 (X.out.after Jh)
     replace Y := I5 (Y.out.after Jh)
     replace V := I5 (V.out.after Jh)
     replace B := B.trans (Jh.mono B.size)
     clear Jh
     go_wp2_with fail
     go_ret
     exact ⟨rfl, B⟩
   | true =>
    obtain ⟨rfl, rfl⟩ := Lh.out rfl
    cases A with
    | false =>
     go_upto_region 4 with fail
     go_step
     refine bC 12 x2.heap.size x2 (Below.refl _ _) ?_
     simp only [List.take_succ_cons, List.take_zero, List.drop_succ_cons, List.drop_zero]
     refine Lk (.bool true) ?_
     simp only [Act.put, I2, I3, I4]
     refine Lk (.bool true) ?_
     simp only [Act.put, I2, I3, I4]
     refine aU rfl 29 _ rfl X.out (by rfl) X.out.lt Tryz.underlying29 rfl (by kernel_rfl) ?_
     simp only [Act.put, I2, I3, I4]
     refine aU rfl 32 _ rfl V.out (by rfl) V.out.lt Tryz.underlying32 rfl (by kernel_rfl) ?_
     simp only [Act.put, I2, I3, I4]
     refine be rfl 9 #[.agg #[.int .u8 du, .slice eJ dV eI, .slice eU dN eT, .int .u8 ao, .bool dZ, .bool dY, .slice eF ek eE, .bool d8, .bool d7, .slice eH em eG], .agg #[.bool sl, .bool sh, .slice cv cq cr, .slice co ci cn, .slice cu cI cj]] (fun w' => by simp [go_sem]) (.bool false) (Nat.le_refl _) (fun w' hw => CA.out w' (B.trans (hw.mono B.size))) ?_
     simp only [Act.put, I2, I3, I4]
     refine Lk (.bool false) ?_
     simp only [Act.put, I2, I3, I4]
     refine Lk (.bool false) ?_
     simp only [Act.put, I2, I3, I4]
     refine aj rfl ?_
     simp only [Act.put, I2, I3, I4]
     refine aj rfl ?_
     simp only [Act.put, I2, I3, I4]
     refine aj rfl ?_
     simp only [Act.put, I2, I3, I4]
     refine aj rfl ?_
     simp only [Act.put, I2, I3, I4]
     refine Lk (.bool false) ?_
     simp only [Act.put, I2, I3, I4]
     intro y3 bK
     replace X := I5 (X.out.after bK)
     replace Y := I5 (Y.out.after bK)
     replace V := I5 (V.out.after bK)
     replace B := B.trans (bK.mono B.size)
     clear bK
     go_upto_region 6 with fail
     refine aP y3.heap.size y3 rfl (by kernel_rfl) (Below.refl _ _) ?_
     refine Lk (.bool true) ?_
     simp only [Act.put, I2, I3, I4]
     refine Lk (.bool true) ?_
     simp only [Act.put, I2, I3, I4]
     refine aU rfl 29 _ rfl X.out (by rfl) X.out.lt Tryz.underlying29 rfl (by kernel_rfl) ?_
     simp only [Act.put, I2, I3, I4]
     refine be rfl 12 #[.agg #[.int .u8 du, .slice eJ dV eI, .slice eU dN eT, .int .u8 ao, .bool dZ, .bool dY, .slice eF ek eE, .bool d8, .bool d7, .slice eH em eG]] (fun w' => by simp [go_sem]) (.bool true) (Nat.le_refl _) (fun w' hw => Bp.out w' (B.trans (hw.mono B.size))) ?_
     simp only [Act.put, I2, I3, I4]
     refine Lk (.bool false) ?_
     simp only [Act.put, I2, I3, I4]
     refine Lk (.bool false) ?_
     simp only [Act.put, I2, I3, I4]
     refine aU rfl 29 _ rfl Y.out (by rfl) Y.out.lt Tryz.underlying29 rfl (by kernel_rfl) ?_
     simp only [Act.put, I2, I3, I4]
     refine be rfl 12 #[.agg #[.int .u8 dU, .slice ej fd ft, .slice fI eS fH, .int .u8 bo, .bool eB, .bool eA, .slice fm fe fk, .bool eD, .bool eC, .slice fq ff fp]] (fun w' => by simp [go_sem]) (.bool true) (Nat.le_refl _) (fun w' hw => BP.out w' (B.trans (hw.mono B.size))) ?_
     simp only [Act.put, I2, I3, I4]
     refine Lk (.bool false) ?_
     simp only [Act.put, I2, I3, I4]
     refine Lk (.bool false) ?_
     simp only [Act.put, I2, I3, I4]
     refine Lk (.bool false) ?_
     simp only [Act.put, I2, I3, I4]
     refine Lk (.bool false) ?_
     simp only [Act.put, I2, I3, I4]
     refine aU rfl 29 _ rfl X.out (by rfl) X.out.lt Tryz.underlying29 rfl (by kernel_rfl) ?_
     simp only [Act.put, I2, I3, I4]
     refine aa rfl (.agg #[.int .u8 1, .slice none 0 0, .slice none 0 0, .int .u8 0, .bool false, .bool false, .slice none 0 0, .bool false, .bool false, .slice none 0 0]) (fun w' hw => by simp [go_sem] <;> rfl) ?_
     simp only [Act.put, I2, I3, I4]
     refine be rfl 15 #[.agg #[.int .u8 du, .slice eJ dV eI, .slice eU dN eT, .int .u8 ao, .bool dZ, .bool dY, .slice eF ek eE, .bool d8, .bool d7, .slice eH em eG], .agg #[.int .u8 1, .slice none 0 0, .slice none 0 0, .int .u8 0, .bool false, .bool false, .slice none 0 0, .bool false, .bool false, .slice none 0 0]] (fun w' => by simp [go_sem]) (.bool true) (Nat.le_refl _) (fun w' hw => KS.out w' (B.trans (hw.mono B.size))) ?_
     simp only [Act.put, I2, I3, I4]
     refine aU rfl 29 _ rfl X.out (by rfl) X.out.lt Tryz.underlying29 rfl (by kernel_rfl) ?_
     simp only [Act.put, I2, I3, I4]
     refine be rfl 12 #[.agg #[.int .u8 du, .slice eJ dV eI, .slice eU dN eT, .int .u8 ao, .bool dZ, .bool dY, .slice eF ek eE, .bool d8, .bool d7, .slice eH em eG]] (fun w' => by simp [go_sem]) (.bool true) (Nat.le_refl _) (fun w' hw => Bp.out w' (B.trans (hw.mono B.size))) ?_
     simp only [Act.put, I2, I3, I4]
     refine Lk (.bool false) ?_
     simp only [Act.put, I2, I3, I4]
     refine Lk (.bool false) ?_
     simp only [Act.put, I2, I3, I4]
     intro z4 GX
     replace X := I5 (X.out.after GX)
     replace Y := I5 (Y.out.after GX)
     replace V := I5 (V.out.after GX)
     replace B := B.trans (GX.mono B.size)
     clear GX
     go_upto_region 8 with fail
     go_step
     refine bC 11 z4.heap.size z4 (Below.refl _ _) ?_
     simp only [List.take_succ_cons, List.take_zero, List.drop_succ_cons, List.drop_zero]
     refine aU rfl 29 _ rfl Y.out (by rfl) Y.out.lt Tryz.underlying29 rfl (by kernel_rfl) ?_
     simp only [Act.put, I2, I3, I4]
     refine be rfl 12 #[.agg #[.int .u8 dU, .slice ej fd ft, .slice fI eS fH, .int .u8 bo, .bool eB, .bool eA, .slice fm fe fk, .bool eD, .bool eC, .slice fq ff fp]] (fun w' => by simp [go_sem]) (.bool true) (Nat.le_refl _) (fun w' hw => BP.out w' (B.trans (hw.mono B.size))) ?_
     simp only [Act.put, I2, I3, I4]
     refine Lk (.bool false) ?_
     simp only [Act.put, I2, I3, I4]
     refine Lk (.bool false) ?_
     simp only [Act.put, I2, I3, I4]
     refine aa rfl (.agg #[.int .u8 4, .slice none 0 0, .slice none 0 0, .int .u8 0, .bool false, .bool false, .slice none 0 0, .bool false, .bool false, .slice none 0 0]) (fun w' hw => by simp [go_sem] <;> rfl) ?_
     simp only [Act.put, I2, I3, I4]
     refine aU rfl 29 _ rfl Y.out (by rfl) Y.out.lt Tryz.underlying29 rfl (by kernel_rfl) ?_
     simp only [Act.put, I2, I3, I4]
     refine be rfl 15 #[.agg #[.int .u8 4, .slice none 0 0, .slice none 0 0, .int .u8 0, .bool false, .bool false, .slice none 0 0, .bool false, .bool false, .slice none 0 0], .agg #[.int .u8 dU, .slice ej fd ft, .slice fI eS fH, .int .u8 bo, .bool eB, .bool eA, .slice fm fe fk, .bool eD, .bool eC, .slice fq ff fp]] (fun w' => by simp [go_sem]) (.bool true) (Nat.le_refl _) (fun w' hw => KR.out w' (B.trans (hw.mono B.size))) ?_
     simp only [Act.put, I2, I3, I4]
     refine Lk (.bool true) ?_
     simp only [Act.put, I2, I3, I4]
     refine Lk (.bool true) ?_
     simp only [Act.put, I2, I3, I4]
     refine be rfl 8 #[] (fun w' => by simp [go_sem]) (.bool true) (Nat.le_refl _) (fun w' hw => CK.out w' (B.trans (hw.mono B.size))) ?_
     simp only [Act.put, I2, I3, I4]
     refine Lk (.bool true) ?_
     simp only [Act.put, I2, I3, I4]
     intro y5 Jh
     replace X := I5 (X.out.after Jh)
     replace Y := I5 (Y.out.after Jh)
     replace V := I5 (V.out.after Jh)
     replace B := B.trans (Jh.mono B.size)
     clear Jh
     go_wp2_with fail
     go_ret
     exact ⟨rfl, B⟩
    | true =>
     obtain rfl := Li.out rfl rfl
     go_upto_region 4 with fail
     go_step
     refine bC 12 x2.heap.size x2 (Below.refl _ _) ?_
     simp only [List.take_succ_cons, List.take_zero, List.drop_succ_cons, List.drop_zero]
     refine Lk (.bool true) ?_
     simp only [Act.put, I2, I3, I4]
     refine Lk (.bool true) ?_
     simp only [Act.put, I2, I3, I4]
     refine aU rfl 29 _ rfl X.out (by rfl) X.out.lt Tryz.underlying29 rfl (by kernel_rfl) ?_
     simp only [Act.put, I2, I3, I4]
     refine aU rfl 32 _ rfl V.out (by rfl) V.out.lt Tryz.underlying32 rfl (by kernel_rfl) ?_
     simp only [Act.put, I2, I3, I4]
     refine be rfl 9 #[.agg #[.int .u8 du, .slice eJ dV eI, .slice eU dN eT, .int .u8 ao, .bool dZ, .bool dY, .slice eF ek eE, .bool d8, .bool d7, .slice eH em eG], .agg #[.bool sl, .bool sh, .slice cv cq cr, .slice co ci cn, .slice cu cI cj]] (fun w' => by simp [go_sem]) (.bool true) (Nat.le_refl _) (fun w' hw => CA.out w' (B.trans (hw.mono B.size))) ?_
     simp only [Act.put, I2, I3, I4]
     refine Lk (.bool true) ?_
     simp only [Act.put, I2, I3, I4]
     refine Lk (.bool true) ?_
     simp only [Act.put, I2, I3, I4]
     refine aU rfl 29 _ rfl Y.out (by rfl) Y.out.lt Tryz.underlying29 rfl (by kernel_rfl) ?_
     simp only [Act.put, I2, I3, I4]
     refine aU rfl 32 _ rfl V.out (by rfl) V.out.lt Tryz.underlying32 rfl (by kernel_rfl) ?_
     simp only [Act.put, I2, I3, I4]
     refine be rfl 9 #[.agg #[.int .u8 dU, .slice ej fd ft, .slice fI eS fH, .int .u8 bo, .bool eB, .bool eA, .slice fm fe fk, .bool eD, .bool eC, .slice fq ff fp], .agg #[.bool sl, .bool sh, .slice cv cq cr, .slice co ci cn, .slice cu cI cj]] (fun w' => by simp [go_sem]) (.bool true) (Nat.le_refl _) (fun w' hw => CD.out w' (B.trans (hw.mono B.size))) ?_
     simp only [Act.put, I2, I3, I4]
     refine Lk (.bool false) ?_
     simp only [Act.put, I2, I3, I4]
     refine Lk (.bool false) ?_
     simp only [Act.put, I2, I3, I4]
     intro y3 bK
     replace X := I5 (X.out.after bK)
     replace Y := I5 (Y.out.after bK)
     replace V := I5 (V.out.after bK)
     replace B := B.trans (bK.mono B.size)
     clear bK
     go_upto_region 6 with fail
     refine aP y3.heap.size y3 rfl (by kernel_rfl) (Below.refl _ _) ?_
     refine Lk (.bool true) ?_
     simp only [Act.put, I2, I3, I4]
     refine Lk (.bool true) ?_
     simp only [Act.put, I2, I3, I4]
     refine aU rfl 29 _ rfl X.out (by rfl) X.out.lt Tryz.underlying29 rfl (by kernel_rfl) ?_
     simp only [Act.put, I2, I3, I4]
     refine be rfl 12 #[.agg #[.int .u8 du, .slice eJ dV eI, .slice eU dN eT, .int .u8 ao, .bool dZ, .bool dY, .slice eF ek eE, .bool d8, .bool d7, .slice eH em eG]] (fun w' => by simp [go_sem]) (.bool true) (Nat.le_refl _) (fun w' hw => Bp.out w' (B.trans (hw.mono B.size))) ?_
     simp only [Act.put, I2, I3, I4]
     refine Lk (.bool false) ?_
     simp only [Act.put, I2, I3, I4]
     refine Lk (.bool false) ?_
     simp only [Act.put, I2, I3, I4]
     refine aU rfl 29 _ rfl Y.out (by rfl) Y.out.lt Tryz.underlying29 rfl (by kernel_rfl) ?_
     simp only [Act.put, I2, I3, I4]
     refine be rfl 12 #[.agg #[.int .u8 dU, .slice ej fd ft, .slice fI eS fH, .int .u8 bo, .bool eB, .bool eA, .slice fm fe fk, .bool eD, .bool eC, .slice fq ff fp]] (fun w' => by simp [go_sem]) (.bool true) (Nat.le_refl _) (fun w' hw => BP.out w' (B.trans (hw.mono B.size))) ?_
     simp only [Act.put, I2, I3, I4]
     refine Lk (.bool false) ?_
     simp only [Act.put, I2, I3, I4]
     refine Lk (.bool false) ?_
     simp only [Act.put, I2, I3, I4]
     refine Lk (.bool false) ?_
     simp only [Act.put, I2, I3, I4]
     refine Lk (.bool false) ?_
     simp only [Act.put, I2, I3, I4]
     refine aU rfl 29 _ rfl X.out (by rfl) X.out.lt Tryz.underlying29 rfl (by kernel_rfl) ?_
     simp only [Act.put, I2, I3, I4]
     refine aa rfl (.agg #[.int .u8 1, .slice none 0 0, .slice none 0 0, .int .u8 0, .bool false, .bool false, .slice none 0 0, .bool false, .bool false, .slice none 0 0]) (fun w' hw => by simp [go_sem] <;> rfl) ?_
     simp only [Act.put, I2, I3, I4]
     refine be rfl 15 #[.agg #[.int .u8 du, .slice eJ dV eI, .slice eU dN eT, .int .u8 ao, .bool dZ, .bool dY, .slice eF ek eE, .bool d8, .bool d7, .slice eH em eG], .agg #[.int .u8 1, .slice none 0 0, .slice none 0 0, .int .u8 0, .bool false, .bool false, .slice none 0 0, .bool false, .bool false, .slice none 0 0]] (fun w' => by simp [go_sem]) (.bool true) (Nat.le_refl _) (fun w' hw => KS.out w' (B.trans (hw.mono B.size))) ?_
     simp only [Act.put, I2, I3, I4]
     refine aU rfl 29 _ rfl X.out (by rfl) X.out.lt Tryz.underlying29 rfl (by kernel_rfl) ?_
     simp only [Act.put, I2, I3, I4]
     refine be rfl 12 #[.agg #[.int .u8 du, .slice eJ dV eI, .slice eU dN eT, .int .u8 ao, .bool dZ, .bool dY, .slice eF ek eE, .bool d8, .bool d7, .slice eH em eG]] (fun w' => by simp [go_sem]) (.bool true) (Nat.le_refl _) (fun w' hw => Bp.out w' (B.trans (hw.mono B.size))) ?_
     simp only [Act.put, I2, I3, I4]
     refine Lk (.bool false) ?_
     simp only [Act.put, I2, I3, I4]
     refine Lk (.bool false) ?_
     simp only [Act.put, I2, I3, I4]
     intro z4 GX
     replace X := I5 (X.out.after GX)
     replace Y := I5 (Y.out.after GX)
     replace V := I5 (V.out.after GX)
     replace B := B.trans (GX.mono B.size)
     clear GX
     go_upto_region 8 with fail
     go_step
     refine bC 11 z4.heap.size z4 (Below.refl _ _) ?_
     simp only [List.take_succ_cons, List.take_zero, List.drop_succ_cons, List.drop_zero]
     refine aU rfl 29 _ rfl Y.out (by rfl) Y.out.lt Tryz.underlying29 rfl (by kernel_rfl) ?_
     simp only [Act.put, I2, I3, I4]
     refine be rfl 12 #[.agg #[.int .u8 dU, .slice ej fd ft, .slice fI eS fH, .int .u8 bo, .bool eB, .bool eA, .slice fm fe fk, .bool eD, .bool eC, .slice fq ff fp]] (fun w' => by simp [go_sem]) (.bool true) (Nat.le_refl _) (fun w' hw => BP.out w' (B.trans (hw.mono B.size))) ?_
     simp only [Act.put, I2, I3, I4]
     refine Lk (.bool false) ?_
     simp only [Act.put, I2, I3, I4]
     refine Lk (.bool false) ?_
     simp only [Act.put, I2, I3, I4]
     refine aa rfl (.agg #[.int .u8 4, .slice none 0 0, .slice none 0 0, .int .u8 0, .bool false, .bool false, .slice none 0 0, .bool false, .bool false, .slice none 0 0]) (fun w' hw => by simp [go_sem] <;> rfl) ?_
     simp only [Act.put, I2, I3, I4]
     refine aU rfl 29 _ rfl Y.out (by rfl) Y.out.lt Tryz.underlying29 rfl (by kernel_rfl) ?_
     simp only [Act.put, I2, I3, I4]
     refine be rfl 15 #[.agg #[.int .u8 4, .slice none 0 0, .slice none 0 0, .int .u8 0, .bool false, .bool false, .slice none 0 0, .bool false, .bool false, .slice none 0 0], .agg #[.int .u8 dU, .slice ej fd ft, .slice fI eS fH, .int .u8 bo, .bool eB, .bool eA, .slice fm fe fk, .bool eD, .bool eC, .slice fq ff fp]] (fun w' => by simp [go_sem]) (.bool true) (Nat.le_refl _) (fun w' hw => KR.out w' (B.trans (hw.mono B.size))) ?_
     simp only [Act.put, I2, I3, I4]
     refine Lk (.bool true) ?_
     simp only [Act.put, I2, I3, I4]
     refine Lk (.bool true) ?_
     simp only [Act.put, I2, I3, I4]
     refine be rfl 8 #[] (fun w' => by simp [go_sem]) (.bool true) (Nat.le_refl _) (fun w' hw => CK.out w' (B.trans (hw.mono B.size))) ?_
     simp only [Act.put, I2, I3, I4]
     refine Lk (.bool true) ?_
     simp only [Act.put, I2, I3, I4]
     intro y5 Jh
     replace X := I5 (X.out.after Jh)
     replace Y := I5 (Y.out.after Jh)
     replace V := I5 (V.out.after Jh)
     replace B := B.trans (Jh.mono B.size)
     clear Jh
     go_wp2_with fail
     go_ret
     exact ⟨rfl, B⟩
end Go.Proofs.YtmmkaclmgnpplaaGreatDoor

import Derived.Test.YtmmkaclmgnpplaaGreatDoorMz33
import Derived.Test.YtmmkaclmgnpplaaGreatDoorMz45
set_option maxRecDepth 100000
set_option maxHeartbeats 64000000
set_option linter.unusedSimpArgs false
set_option linter.unusedVariables false
namespace Go.Proofs.YtmmkaclmgnpplaaGreatDoor
open Go.RowKit
theorem uB {t : Tg} (h : t.great 0 = false) (hn : t.count < 4611686018427387904) : t.wide 0 = false ∧ t.count ≤ 1000 := by
 have hw : t.wide 0 = false := by
  cases hw : t.wide 0 with
  | false => rfl
  | true => rw [ms hw] at h; cases h
 rw [lf hw] at h
 have h2 := of_decide_eq_false h
 have : wrap64 (t.count : Int) = t.count := by unfold wrap64; omega
 rw [this] at h2
 exact ⟨hw, by omega⟩
theorem MeetAllows_walk (u0 : TV) (s0 : Tg) (u1 : SV) (s1 : Sx) (w : World) (wy : Tab w) (h0 : RdT (fun _ => True) w u0 s0) (b0 : s0.count < 4611686018427387904) (h1 : Rd w u1 s1) (b1 : s1.nodes < 4611686018427387904) :
  Calls Tryz.prog 3 #[u0.val, u1.val] w fun e w' => e = .returned (.bool true) ∧ Below w.heap.size w w' := by
 have Dc := I5 h0
 have nW := I5 h1
 have HT := I5 wy
 have Ih := I5 b0
 have ep := I5 b1
 clear h0 h1 wy b0 b1
 obtain ⟨ay, aw, ap, av, aA, aS, az, vo, am, ak, aE, aB, aD, ar, aq, aI, aC, aH⟩ := u0
 obtain ⟨sl, sh, cv, cq, cr, co, ci, cn, cu, cI, cj⟩ := u1
 have B : Below w.heap.size w ((w.alloc (.cells #[.int .u8 ay, .slice aw ap av, .slice aA aS az, .int .u8 vo, .bool am, .bool ak, .slice aE aB aD, .bool ar, .bool aq, .slice aI aC aH] 29)).alloc (.cells #[.bool sl, .bool sh, .slice cv cq cr, .slice co ci cn, .slice cu cI cj] 32)) := ((Below.refl _ _).alloc (Nat.le_refl _) _).alloc (by simp) _
 have X : Hid (Box ((w.alloc (.cells #[.int .u8 ay, .slice aw ap av, .slice aA aS az, .int .u8 vo, .bool am, .bool ak, .slice aE aB aD, .bool ar, .bool aq, .slice aI aC aH] 29)).alloc (.cells #[.bool sl, .bool sh, .slice cv cq cr, .slice co ci cn, .slice cu cI cj] 32)) w.heap.size 29 #[.int .u8 ay, .slice aw ap av, .slice aA aS az, .int .u8 vo, .bool am, .bool ak, .slice aE aB aD, .bool ar, .bool aq, .slice aI aC aH]) := I5 ((Box.new _ _ _).alloc _)
 have Y : Hid (Box ((w.alloc (.cells #[.int .u8 ay, .slice aw ap av, .slice aA aS az, .int .u8 vo, .bool am, .bool ak, .slice aE aB aD, .bool ar, .bool aq, .slice aI aC aH] 29)).alloc (.cells #[.bool sl, .bool sh, .slice cv cq cr, .slice co ci cn, .slice cu cI cj] 32)) (w.heap.size + 1) 32 #[.bool sl, .bool sh, .slice cv cq cr, .slice co ci cn, .slice cu cI cj]) := I5 (by
  have := Box.new (w.alloc (.cells #[.int .u8 ay, .slice aw ap av, .slice aA aS az, .int .u8 vo, .bool am, .bool ak, .slice aE aB aD, .bool ar, .bool aq, .slice aI aC aH] 29)) 32 #[.bool sl, .bool sh, .slice cv cq cr, .slice co ci cn, .slice cu cI cj]
  simpa using this)
 obtain ⟨g0, Ez⟩ : ∃ b, b = s0.great 0 := ⟨_, rfl⟩
 obtain ⟨g1, m7⟩ : ∃ b, b = s1.great 0 := ⟨_, rfl⟩
 have G0 := I5 Ez
 have G1 := I5 m7
 have C0 := I5 (fun w' (h : Below w.heap.size w w') => rP s0 ⟨ay, aw, ap, av, aA, aS, az, vo, am, ak, aE, aB, aD, ar, aq, aI, aC, aH⟩ 0 w' (Dc.out.after h) (by omega))
 have C1 := I5 (fun w' (h : Below w.heap.size w w') => uA s1 ⟨sl, sh, cv, cq, cr, co, ci, cn, cu, cI, cj⟩ 0 w' (nW.out.after h) (by omega))
 rw [← Ez] at C0
 rw [← m7] at C1
 clear Ez m7
 simp only [TV.val, SV.val]
 show Calls _ _ #[.agg #[.int .u8 ay, .slice aw ap av, .slice aA aS az, .int .u8 vo, .bool am, .bool ak, .slice aE aB aD, .bool ar, .bool aq, .slice aI aC aH], .agg #[.bool sl, .bool sh, .slice cv cq cr, .slice co ci cn, .slice cu cI cj]] _ _
 go_enter Tryz.func3, Tryz.ntmps3
 go_upto_region 1 with fail
 change Code.wp _ _ _ _ ((w.alloc (.cells #[.int .u8 ay, .slice aw ap av, .slice aA aS az, .int .u8 vo, .bool am, .bool ak, .slice aE aB aD, .bool ar, .bool aq, .slice aI aC aH] 29)).alloc (.cells #[.bool sl, .bool sh, .slice cv cq cr, .slice co ci cn, .slice cu cI cj] 32))
 generalize ((w.alloc (.cells #[.int .u8 ay, .slice aw ap av, .slice aA aS az, .int .u8 vo, .bool am, .bool ak, .slice aE aB aD, .bool ar, .bool aq, .slice aI aC aH] 29)).alloc (.cells #[.bool sl, .bool sh, .slice cv cq cr, .slice co ci cn, .slice cu cI cj] 32)) = x0 at *
 cases g0 with
 | true =>
  go_step
  refine bC 6 x0.heap.size x0 (Below.refl _ _) ?_
  simp only [List.take_succ_cons, List.take_zero, List.drop_succ_cons, List.drop_zero]
  refine aU rfl 29 _ rfl X.out (by rfl) X.out.lt Tryz.underlying29 rfl (by kernel_rfl) ?_
  simp only [Act.put, I2, I3, I4]
  refine be rfl 6 #[.agg #[.int .u8 ay, .slice aw ap av, .slice aA aS az, .int .u8 vo, .bool am, .bool ak, .slice aE aB aD, .bool ar, .bool aq, .slice aI aC aH], .int .i64 0] (fun w' => by simp [go_sem]) (.bool true) (Nat.le_refl _) (fun w' hw => C0.out w' (B.trans (hw.mono B.size))) ?_
  simp only [Act.put, I2, I3, I4]
  refine aa rfl (.bool true) (fun w' hw => by simp [go_sem]) ?_
  simp only [Act.put, I2, I3, I4]
  refine aj rfl ?_
  simp only [Act.put, I2, I3, I4]
  refine aj rfl ?_
  simp only [Act.put, I2, I3, I4]
  refine aa rfl (.bool true) (fun w' hw => by simp [go_sem]) ?_
  simp only [Act.put, I2, I3, I4]
  intro y1 af
  replace X := I5 (X.out.after af)
  replace Y := I5 (Y.out.after af)
  replace B := B.trans (af.mono B.size)
  clear af
  clear C0 C1
  go_wp2_with fail
  refine (ir y1 (HT.out.after B)).mono ?_
  rintro e x2 ⟨rfl, bx2⟩
  replace X := I5 (X.out.after bx2)
  replace Y := I5 (Y.out.after bx2)
  replace B := B.trans (bx2.mono B.size)
  clear bx2
  go_wp2_with fail
  go_ret
  exact ⟨rfl, B⟩
 | false =>
  cases g1 with
  | true =>
   go_step
   refine bC 6 x0.heap.size x0 (Below.refl _ _) ?_
   simp only [List.take_succ_cons, List.take_zero, List.drop_succ_cons, List.drop_zero]
   refine aU rfl 29 _ rfl X.out (by rfl) X.out.lt Tryz.underlying29 rfl (by kernel_rfl) ?_
   simp only [Act.put, I2, I3, I4]
   refine be rfl 6 #[.agg #[.int .u8 ay, .slice aw ap av, .slice aA aS az, .int .u8 vo, .bool am, .bool ak, .slice aE aB aD, .bool ar, .bool aq, .slice aI aC aH], .int .i64 0] (fun w' => by simp [go_sem]) (.bool false) (Nat.le_refl _) (fun w' hw => C0.out w' (B.trans (hw.mono B.size))) ?_
   simp only [Act.put, I2, I3, I4]
   refine aa rfl (.bool false) (fun w' hw => by simp [go_sem]) ?_
   simp only [Act.put, I2, I3, I4]
   refine aU rfl 32 _ rfl Y.out (by rfl) Y.out.lt Tryz.underlying32 rfl (by kernel_rfl) ?_
   simp only [Act.put, I2, I3, I4]
   refine be rfl 7 #[.agg #[.bool sl, .bool sh, .slice cv cq cr, .slice co ci cn, .slice cu cI cj], .int .i64 0] (fun w' => by simp [go_sem]) (.bool true) (Nat.le_refl _) (fun w' hw => C1.out w' (B.trans (hw.mono B.size))) ?_
   simp only [Act.put, I2, I3, I4]
   refine aa rfl (.bool true) (fun w' hw => by simp [go_sem]) ?_
   simp only [Act.put, I2, I3, I4]
   intro y1 af
   replace X := I5 (X.out.after af)
   replace Y := I5 (Y.out.after af)
   replace B := B.trans (af.mono B.size)
   clear af
   clear C0 C1
   go_wp2_with fail
   refine (ir y1 (HT.out.after B)).mono ?_
   rintro e x2 ⟨rfl, bx2⟩
   replace X := I5 (X.out.after bx2)
   replace Y := I5 (Y.out.after bx2)
   replace B := B.trans (bx2.mono B.size)
   clear bx2
   go_wp2_with fail
   go_ret
   exact ⟨rfl, B⟩
  | false =>
   go_step
   refine bC 6 x0.heap.size x0 (Below.refl _ _) ?_
   simp only [List.take_succ_cons, List.take_zero, List.drop_succ_cons, List.drop_zero]
   refine aU rfl 29 _ rfl X.out (by rfl) X.out.lt Tryz.underlying29 rfl (by kernel_rfl) ?_
   simp only [Act.put, I2, I3, I4]
   refine be rfl 6 #[.agg #[.int .u8 ay, .slice aw ap av, .slice aA aS az, .int .u8 vo, .bool am, .bool ak, .slice aE aB aD, .bool ar, .bool aq, .slice aI aC aH], .int .i64 0] (fun w' => by simp [go_sem]) (.bool false) (Nat.le_refl _) (fun w' hw => C0.out w' (B.trans (hw.mono B.size))) ?_
   simp only [Act.put, I2, I3, I4]
   refine aa rfl (.bool false) (fun w' hw => by simp [go_sem]) ?_
   simp only [Act.put, I2, I3, I4]
   refine aU rfl 32 _ rfl Y.out (by rfl) Y.out.lt Tryz.underlying32 rfl (by kernel_rfl) ?_
   simp only [Act.put, I2, I3, I4]
   refine be rfl 7 #[.agg #[.bool sl, .bool sh, .slice cv cq cr, .slice co ci cn, .slice cu cI cj], .int .i64 0] (fun w' => by simp [go_sem]) (.bool false) (Nat.le_refl _) (fun w' hw => C1.out w' (B.trans (hw.mono B.size))) ?_
   simp only [Act.put, I2, I3, I4]
   refine aa rfl (.bool false) (fun w' hw => by simp [go_sem]) ?_
   simp only [Act.put, I2, I3, I4]
   intro y1 af
   replace X := I5 (X.out.after af)
   replace Y := I5 (Y.out.after af)
   replace B := B.trans (af.mono B.size)
   clear af
   clear C0 C1
   obtain ⟨DW, EF⟩ := uB G0.out.symm Ih.out
   obtain ⟨zF, o7⟩ := qf G1.out.symm ep.out
   obtain ⟨AN, Gl⟩ := rM G1.out.symm ep.out
   obtain ⟨ga, Gi⟩ : ∃ b, b = s0.grants s1 := ⟨_, rfl⟩
   have CA := I5 (fun w' (h : Below y1.heap.size y1 w') => sw s0 s1 ⟨ay, aw, ap, av, aA, aS, az, vo, am, ak, aE, aB, aD, ar, aq, aI, aC, aH⟩ ⟨sl, sh, cv, cq, cr, co, ci, cn, cu, cI, cj⟩ w' (Dc.out.after (B.trans (h.mono B.size))) (nW.out.after (B.trans (h.mono B.size))) DW zF (HT.out.after (B.trans (h.mono B.size))))
   have CR := I5 (fun w' (h : Below y1.heap.size y1 w') => mY s0 s1 ⟨ay, aw, ap, av, aA, aS, az, vo, am, ak, aE, aB, aD, ar, aq, aI, aC, aH⟩ ⟨sl, sh, cv, cq, cr, co, ci, cn, cu, cI, cj⟩ w' (Dc.out.after (B.trans (h.mono B.size))) (nW.out.after (B.trans (h.mono B.size))) DW zF (by omega) ep.out Gl)
   have CK := I5 (fun w' (h : Below y1.heap.size y1 w') => ir w' (HT.out.after (B.trans (h.mono B.size))))
   rw [← Gi] at CA CR
   clear Gi DW EF zF o7 AN Gl
   go_upto_region 3 with fail
   refine aP y1.heap.size y1 rfl (by kernel_rfl) (Below.refl _ _) ?_
   refine aU rfl 29 _ rfl X.out (by rfl) X.out.lt Tryz.underlying29 rfl (by kernel_rfl) ?_
   simp only [Act.put, I2, I3, I4]
   refine aU rfl 32 _ rfl Y.out (by rfl) Y.out.lt Tryz.underlying32 rfl (by kernel_rfl) ?_
   simp only [Act.put, I2, I3, I4]
   refine be rfl 9 #[.agg #[.int .u8 ay, .slice aw ap av, .slice aA aS az, .int .u8 vo, .bool am, .bool ak, .slice aE aB aD, .bool ar, .bool aq, .slice aI aC aH], .agg #[.bool sl, .bool sh, .slice cv cq cr, .slice co ci cn, .slice cu cI cj]] (fun w' => by simp [go_sem]) (.bool ga) (Nat.le_refl _) (fun w' hw => CA.out w' hw) ?_
   simp only [Act.put, I2, I3, I4]
   refine aU rfl 29 _ rfl X.out (by rfl) X.out.lt Tryz.underlying29 rfl (by kernel_rfl) ?_
   simp only [Act.put, I2, I3, I4]
   refine aU rfl 32 _ rfl Y.out (by rfl) Y.out.lt Tryz.underlying32 rfl (by kernel_rfl) ?_
   simp only [Act.put, I2, I3, I4]
   refine be rfl 10 #[.agg #[.int .u8 ay, .slice aw ap av, .slice aA aS az, .int .u8 vo, .bool am, .bool ak, .slice aE aB aD, .bool ar, .bool aq, .slice aI aC aH], .agg #[.bool sl, .bool sh, .slice cv cq cr, .slice co ci cn, .slice cu cI cj]] (fun w' => by simp [go_sem]) (.bool ga) (Nat.le_refl _) (fun w' hw => CR.out w' hw) ?_
   simp only [Act.put, I2, I3, I4]
   refine aa rfl (.bool true) (fun w' hw => by simp [go_sem]) ?_
   simp only [Act.put, I2, I3, I4]
   refine aa rfl (.bool true) (fun w' hw => by simp [go_sem]) ?_
   simp only [Act.put, I2, I3, I4]
   refine be rfl 8 #[] (fun w' => by simp [go_sem]) (.bool true) (Nat.le_refl _) (fun w' hw => CK.out w' hw) ?_
   simp only [Act.put, I2, I3, I4]
   refine aa rfl (.bool true) (fun w' hw => by simp [go_sem]) ?_
   simp only [Act.put, I2, I3, I4]
   refine aa rfl (.bool true) (fun w' hw => by simp [go_sem]) ?_
   simp only [Act.put, I2, I3, I4]
   intro y8 hb8
   have B8 := B.trans (hb8.mono B.size)
   go_wp2_with fail
   go_ret
   exact ⟨rfl, B8⟩
end Go.Proofs.YtmmkaclmgnpplaaGreatDoor

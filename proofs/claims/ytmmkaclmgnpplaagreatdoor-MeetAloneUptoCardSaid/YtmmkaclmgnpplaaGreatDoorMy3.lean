import Derived.Test.YtmmkaclmgnpplaaGreatDoorMy2
set_option maxRecDepth 100000
set_option maxHeartbeats 64000000
set_option linter.unusedSimpArgs false
set_option linter.unusedVariables false
namespace Go.Proofs.YtmmkaclmgnpplaaGreatDoor
open Go.RowKit
theorem Ka {a b : Tg} (h : greatB a b = false) : a.great 0 = false ∧ b.great 0 = false := by
 unfold greatB at h
 simp only [Bool.or_eq_false_iff] at h
 exact ⟨h.1.1.1, h.1.1.2⟩
theorem MeetAlone_walk (u0 : TV) (s0 : Tg) (u1 : SV) (s1 : Sx) (w : World) (wy : Tab w) (h0 : RdT (fun _ => True) w u0 s0) (b0 : s0.count < 4611686018427387904) (h1 : Rd w u1 s1) (b1 : s1.nodes < 4611686018427387904) :
  Calls Tryz.prog 4 #[u0.val, u1.val] w fun e w' => e = .returned (.bool true) ∧ Below w.heap.size w w' := by
 have Dc := I5 h0
 have nW := I5 h1
 have HT := I5 wy
 have Ih := I5 b0
 have ep := I5 b1
 clear h0 h1 wy b0 b1
 obtain ⟨ay, aw, ap, av, aA, aS, az, vo, am, ak, aE, aB, aD, ar, aq, aI, aC, aH⟩ := u0
 obtain ⟨sl, sh, cv, cq, cr, co, ci, cn, cu, cI, cj⟩ := u1
 have B : Below w.heap.size w ((w.alloc (.cells #[.int .u8 ay, .slice aw ap av, .slice aA aS az, .int .u8 vo, .bool am, .bool ak, .slice aE aB aD, .bool ar, .bool aq, .slice aI aC aH] 29)).alloc (.cells #[.bool sl, .bool sh, .slice cv cq cr, .slice co ci cn, .slice cu cI cj] 32)) := ((Below.refl _ _).alloc (Nat.le_refl _) _).alloc (by simp) _
 have X : Hid (Box ((w.alloc (.cells #[.int .u8 ay, .slice aw ap av, .slice aA aS az, .int .u8 vo, .bool am, .bool ak, .slice aE aB aD, .bool ar, .bool aq, .slice aI aC aH] 29)).alloc (.cells #[.bool sl, .bool sh, .slice cv cq cr, .slice co ci cn, .slice cu cI cj] 32)) w.heap.size 29 #[.int .u8 ay, .slice aw ap av, .slice aA aS az, .int .u8 vo, .bool am, .bool ak, .slice aE aB aD, .bool ar, .bool aq, .slice aI aC aH]) := I5 ((Box.new _ _ _).alloc _)
 have Y : Hid (Box ((w.alloc (.cells #[.int .u8 ay, .slice aw ap av, .slice aA aS az, .int .u8 vo, .bool am, .bool ak, .slice aE aB aD, .bool ar, .bool aq, .slice aI aC aH] 29)).alloc (.cells #[.bool sl, .bool sh, .slice cv cq cr, .slice co ci cn, .slice cu cI cj] 32)) (w.heap.size + 1) 32 #[.bool sl, .bool sh, .slice cv cq cr, .slice co ci cn, .slice cu cI cj]) := I5 (by
  have := Box.new (w.alloc (.cells #[.int .u8 ay, .slice aw ap av, .slice aA aS az, .int .u8 vo, .bool am, .bool ak, .slice aE aB aD, .bool ar, .bool aq, .slice aI aC aH] 29)) 32 #[.bool sl, .bool sh, .slice cv cq cr, .slice co ci cn, .slice cu cI cj]
  simpa using this)
 obtain ⟨g0, Ez⟩ : ∃ b, b = greatB s0 s0 := ⟨_, rfl⟩
 obtain ⟨g1, m7⟩ : ∃ b, b = s1.great 0 := ⟨_, rfl⟩
 obtain ⟨ma, Ej⟩ : ∃ b, b = s0.may := ⟨_, rfl⟩
 have G0 := I5 Ez
 have G1 := I5 m7
 have DJ := I5 Ej
 have C0 := I5 (fun w' (h : Below w.heap.size w w') => JT s0 s0 ⟨ay, aw, ap, av, aA, aS, az, vo, am, ak, aE, aB, aD, ar, aq, aI, aC, aH⟩ ⟨ay, aw, ap, av, aA, aS, az, vo, am, ak, aE, aB, aD, ar, aq, aI, aC, aH⟩ w' (Dc.out.after h) (Dc.out.after h) Ih.out Ih.out)
 have C1 := I5 (fun w' (h : Below w.heap.size w w') => uA s1 ⟨sl, sh, cv, cq, cr, co, ci, cn, cu, cI, cj⟩ 0 w' (nW.out.after h) (by omega))
 rw [← Ez] at C0
 rw [← m7] at C1
 clear Ez m7
 simp only [TV.val, SV.val]
 show Calls _ _ #[.agg #[.int .u8 ay, .slice aw ap av, .slice aA aS az, .int .u8 vo, .bool am, .bool ak, .slice aE aB aD, .bool ar, .bool aq, .slice aI aC aH], .agg #[.bool sl, .bool sh, .slice cv cq cr, .slice co ci cn, .slice cu cI cj]] _ _
 go_enter Tryz.func4, Tryz.ntmps4
 go_upto_region 1 with fail
 change Code.wp _ _ _ _ ((w.alloc (.cells #[.int .u8 ay, .slice aw ap av, .slice aA aS az, .int .u8 vo, .bool am, .bool ak, .slice aE aB aD, .bool ar, .bool aq, .slice aI aC aH] 29)).alloc (.cells #[.bool sl, .bool sh, .slice cv cq cr, .slice co ci cn, .slice cu cI cj] 32))
 generalize ((w.alloc (.cells #[.int .u8 ay, .slice aw ap av, .slice aA aS az, .int .u8 vo, .bool am, .bool ak, .slice aE aB aD, .bool ar, .bool aq, .slice aI aC aH] 29)).alloc (.cells #[.bool sl, .bool sh, .slice cv cq cr, .slice co ci cn, .slice cu cI cj] 32)) = x0 at *
 cases g0 with
 | true =>
  go_step
  refine bC 12 x0.heap.size x0 (Below.refl _ _) ?_
  simp only [List.take_succ_cons, List.take_zero, List.drop_succ_cons, List.drop_zero]
  refine aU rfl 29 _ rfl X.out (by rfl) X.out.lt Tryz.underlying29 rfl (by kernel_rfl) ?_
  simp only [Act.put, I2, I3, I4]
  refine aU rfl 29 _ rfl X.out (by rfl) X.out.lt Tryz.underlying29 rfl (by kernel_rfl) ?_
  simp only [Act.put, I2, I3, I4]
  refine be rfl 11 #[.agg #[.int .u8 ay, .slice aw ap av, .slice aA aS az, .int .u8 vo, .bool am, .bool ak, .slice aE aB aD, .bool ar, .bool aq, .slice aI aC aH], .agg #[.int .u8 ay, .slice aw ap av, .slice aA aS az, .int .u8 vo, .bool am, .bool ak, .slice aE aB aD, .bool ar, .bool aq, .slice aI aC aH]] (fun w' => by simp [go_sem]) (.bool true) (Nat.le_refl _) (fun w' hw => C0.out w' (B.trans (hw.mono B.size))) ?_
  simp only [Act.put, I2, I3, I4]
  refine Lg (.bool true) ?_
  simp only [Act.put, I2, I3, I4]
  refine aj rfl ?_
  simp only [Act.put, I2, I3, I4]
  refine aj rfl ?_
  simp only [Act.put, I2, I3, I4]
  refine Lg (.bool true) ?_
  simp only [Act.put, I2, I3, I4]
  refine Lg (.bool true) ?_
  simp only [Act.put, I2, I3, I4]
  refine aj rfl ?_
  simp only [Act.put, I2, I3, I4]
  refine aj rfl ?_
  simp only [Act.put, I2, I3, I4]
  refine aj rfl ?_
  simp only [Act.put, I2, I3, I4]
  refine Lg (.bool true) ?_
  simp only [Act.put, I2, I3, I4]
  intro y1 af
  replace X := I5 (X.out.after af)
  replace Y := I5 (Y.out.after af)
  replace B := B.trans (af.mono B.size)
  clear af
  clear C0 C1
  clear Ej
  go_wp2_with fail
  refine (ir y1 (HT.out.after B)).mono ?_
  rintro e x2 ⟨rfl, JQ⟩
  replace X := I5 (X.out.after JQ)
  replace Y := I5 (Y.out.after JQ)
  replace B := B.trans (JQ.mono B.size)
  clear JQ
  go_wp2_with fail
  go_ret
  exact ⟨rfl, B⟩
 | false =>
  cases g1 with
  | true =>
   go_step
   refine bC 12 x0.heap.size x0 (Below.refl _ _) ?_
   simp only [List.take_succ_cons, List.take_zero, List.drop_succ_cons, List.drop_zero]
   refine aU rfl 29 _ rfl X.out (by rfl) X.out.lt Tryz.underlying29 rfl (by kernel_rfl) ?_
   simp only [Act.put, I2, I3, I4]
   refine aU rfl 29 _ rfl X.out (by rfl) X.out.lt Tryz.underlying29 rfl (by kernel_rfl) ?_
   simp only [Act.put, I2, I3, I4]
   refine be rfl 11 #[.agg #[.int .u8 ay, .slice aw ap av, .slice aA aS az, .int .u8 vo, .bool am, .bool ak, .slice aE aB aD, .bool ar, .bool aq, .slice aI aC aH], .agg #[.int .u8 ay, .slice aw ap av, .slice aA aS az, .int .u8 vo, .bool am, .bool ak, .slice aE aB aD, .bool ar, .bool aq, .slice aI aC aH]] (fun w' => by simp [go_sem]) (.bool false) (Nat.le_refl _) (fun w' hw => C0.out w' (B.trans (hw.mono B.size))) ?_
   simp only [Act.put, I2, I3, I4]
   refine Lg (.bool false) ?_
   simp only [Act.put, I2, I3, I4]
   refine aU rfl 32 _ rfl Y.out (by rfl) Y.out.lt Tryz.underlying32 rfl (by kernel_rfl) ?_
   simp only [Act.put, I2, I3, I4]
   refine be rfl 7 #[.agg #[.bool sl, .bool sh, .slice cv cq cr, .slice co ci cn, .slice cu cI cj], .int .i64 0] (fun w' => by simp [go_sem]) (.bool true) (Nat.le_refl _) (fun w' hw => C1.out w' (B.trans (hw.mono B.size))) ?_
   simp only [Act.put, I2, I3, I4]
   refine Lg (.bool true) ?_
   simp only [Act.put, I2, I3, I4]
   refine Lg (.bool true) ?_
   simp only [Act.put, I2, I3, I4]
   refine aj rfl ?_
   simp only [Act.put, I2, I3, I4]
   refine aj rfl ?_
   simp only [Act.put, I2, I3, I4]
   refine aj rfl ?_
   simp only [Act.put, I2, I3, I4]
   refine Lg (.bool true) ?_
   simp only [Act.put, I2, I3, I4]
   intro y1 af
   replace X := I5 (X.out.after af)
   replace Y := I5 (Y.out.after af)
   replace B := B.trans (af.mono B.size)
   clear af
   clear C0 C1
   clear Ej
   go_wp2_with fail
   refine (ir y1 (HT.out.after B)).mono ?_
   rintro e x2 ⟨rfl, JQ⟩
   replace X := I5 (X.out.after JQ)
   replace Y := I5 (Y.out.after JQ)
   replace B := B.trans (JQ.mono B.size)
   clear JQ
   go_wp2_with fail
   go_ret
   exact ⟨rfl, B⟩
  | false =>
   obtain ⟨DW, EF⟩ := uB (Ka G0.out.symm).1 Ih.out
   obtain ⟨zF, o7⟩ := qf G1.out.symm ep.out
   have Km := I5 DW
   have KP := I5 zF
   have K5 := I5 EF
   have CM := I5 (fun w' (h : Below w.heap.size w w') => pJ s0 ⟨ay, aw, ap, av, aA, aS, az, vo, am, ak, aE, aB, aD, ar, aq, aI, aC, aH⟩ 0 w' (Dc.out.after h) Km.out (by have := K5.out; omega))
   rw [← Ej] at CM
   clear DW zF EF o7
   cases ma with
   | false =>
    go_step
    refine bC 12 x0.heap.size x0 (Below.refl _ _) ?_
    simp only [List.take_succ_cons, List.take_zero, List.drop_succ_cons, List.drop_zero]
    refine aU rfl 29 _ rfl X.out (by rfl) X.out.lt Tryz.underlying29 rfl (by kernel_rfl) ?_
    simp only [Act.put, I2, I3, I4]
    refine aU rfl 29 _ rfl X.out (by rfl) X.out.lt Tryz.underlying29 rfl (by kernel_rfl) ?_
    simp only [Act.put, I2, I3, I4]
    refine be rfl 11 #[.agg #[.int .u8 ay, .slice aw ap av, .slice aA aS az, .int .u8 vo, .bool am, .bool ak, .slice aE aB aD, .bool ar, .bool aq, .slice aI aC aH], .agg #[.int .u8 ay, .slice aw ap av, .slice aA aS az, .int .u8 vo, .bool am, .bool ak, .slice aE aB aD, .bool ar, .bool aq, .slice aI aC aH]] (fun w' => by simp [go_sem]) (.bool false) (Nat.le_refl _) (fun w' hw => C0.out w' (B.trans (hw.mono B.size))) ?_
    simp only [Act.put, I2, I3, I4]
    refine Lg (.bool false) ?_
    simp only [Act.put, I2, I3, I4]
    refine aU rfl 32 _ rfl Y.out (by rfl) Y.out.lt Tryz.underlying32 rfl (by kernel_rfl) ?_
    simp only [Act.put, I2, I3, I4]
    refine be rfl 7 #[.agg #[.bool sl, .bool sh, .slice cv cq cr, .slice co ci cn, .slice cu cI cj], .int .i64 0] (fun w' => by simp [go_sem]) (.bool false) (Nat.le_refl _) (fun w' hw => C1.out w' (B.trans (hw.mono B.size))) ?_
    simp only [Act.put, I2, I3, I4]
    refine Lg (.bool false) ?_
    simp only [Act.put, I2, I3, I4]
    refine Lg (.bool false) ?_
    simp only [Act.put, I2, I3, I4]
    refine aU rfl 29 _ rfl X.out (by rfl) X.out.lt Tryz.underlying29 rfl (by kernel_rfl) ?_
    simp only [Act.put, I2, I3, I4]
    refine be rfl 12 #[.agg #[.int .u8 ay, .slice aw ap av, .slice aA aS az, .int .u8 vo, .bool am, .bool ak, .slice aE aB aD, .bool ar, .bool aq, .slice aI aC aH]] (fun w' => by simp [go_sem]) (.bool false) (Nat.le_refl _) (fun w' hw => CM.out w' (B.trans (hw.mono B.size))) ?_
    simp only [Act.put, I2, I3, I4]
    refine Lg (.bool true) ?_
    simp only [Act.put, I2, I3, I4]
    refine Lg (.bool true) ?_
    simp only [Act.put, I2, I3, I4]
    intro y1 af
    replace X := I5 (X.out.after af)
    replace Y := I5 (Y.out.after af)
    replace B := B.trans (af.mono B.size)
    clear af
    clear C0 C1 CM
    clear Ej
    go_wp2_with fail
    refine (ir y1 (HT.out.after B)).mono ?_
    rintro e x2 ⟨rfl, JQ⟩
    replace X := I5 (X.out.after JQ)
    replace Y := I5 (Y.out.after JQ)
    replace B := B.trans (JQ.mono B.size)
    clear JQ
    go_wp2_with fail
    go_ret
    exact ⟨rfl, B⟩
   | true =>
    go_step
    refine bC 12 x0.heap.size x0 (Below.refl _ _) ?_
    simp only [List.take_succ_cons, List.take_zero, List.drop_succ_cons, List.drop_zero]
    refine aU rfl 29 _ rfl X.out (by rfl) X.out.lt Tryz.underlying29 rfl (by kernel_rfl) ?_
    simp only [Act.put, I2, I3, I4]
    refine aU rfl 29 _ rfl X.out (by rfl) X.out.lt Tryz.underlying29 rfl (by kernel_rfl) ?_
    simp only [Act.put, I2, I3, I4]
    refine be rfl 11 #[.agg #[.int .u8 ay, .slice aw ap av, .slice aA aS az, .int .u8 vo, .bool am, .bool ak, .slice aE aB aD, .bool ar, .bool aq, .slice aI aC aH], .agg #[.int .u8 ay, .slice aw ap av, .slice aA aS az, .int .u8 vo, .bool am, .bool ak, .slice aE aB aD, .bool ar, .bool aq, .slice aI aC aH]] (fun w' => by simp [go_sem]) (.bool false) (Nat.le_refl _) (fun w' hw => C0.out w' (B.trans (hw.mono B.size))) ?_
    simp only [Act.put, I2, I3, I4]
    refine Lg (.bool false) ?_
    simp only [Act.put, I2, I3, I4]
    refine aU rfl 32 _ rfl Y.out (by rfl) Y.out.lt Tryz.underlying32 rfl (by kernel_rfl) ?_
    simp only [Act.put, I2, I3, I4]
    refine be rfl 7 #[.agg #[.bool sl, .bool sh, .slice cv cq cr, .slice co ci cn, .slice cu cI cj], .int .i64 0] (fun w' => by simp [go_sem]) (.bool false) (Nat.le_refl _) (fun w' hw => C1.out w' (B.trans (hw.mono B.size))) ?_
    simp only [Act.put, I2, I3, I4]
    refine Lg (.bool false) ?_
    simp only [Act.put, I2, I3, I4]
    refine Lg (.bool false) ?_
    simp only [Act.put, I2, I3, I4]
    refine aU rfl 29 _ rfl X.out (by rfl) X.out.lt Tryz.underlying29 rfl (by kernel_rfl) ?_
    simp only [Act.put, I2, I3, I4]
    refine be rfl 12 #[.agg #[.int .u8 ay, .slice aw ap av, .slice aA aS az, .int .u8 vo, .bool am, .bool ak, .slice aE aB aD, .bool ar, .bool aq, .slice aI aC aH]] (fun w' => by simp [go_sem]) (.bool true) (Nat.le_refl _) (fun w' hw => CM.out w' (B.trans (hw.mono B.size))) ?_
    simp only [Act.put, I2, I3, I4]
    refine Lg (.bool false) ?_
    simp only [Act.put, I2, I3, I4]
    refine Lg (.bool false) ?_
    simp only [Act.put, I2, I3, I4]
    intro y1 af
    replace X := I5 (X.out.after af)
    replace Y := I5 (Y.out.after af)
    replace B := B.trans (af.mono B.size)
    clear af
    clear C0 C1 CM Ej
    go_wp2_with (refine ab rfl 29 _ rfl X.out (by rfl) Tryz.underlying29 rfl (by kernel_rfl) ?_)
    refine (xz s0 s0 ⟨ay, aw, ap, av, aA, aS, az, vo, am, ak, aE, aB, aD, ar, aq, aI, aC, aH⟩ ⟨ay, aw, ap, av, aA, aS, az, vo, am, ak, aE, aB, aD, ar, aq, aI, aC, aH⟩ y1 (Dc.out.after B) (Dc.out.after B) Km.out Km.out (HT.out.after B)).mono ?_
    rintro e y2 ⟨⟨Ks, FP, Kr, Ku, FO, Kq, Kt, mo, Ah, Ag, Ai, zA, Bt, Ak, Aj, Al, zB, Bu⟩, e1, t1, KV, rfl, rm, Kk⟩
    have RM := I5 (rm.mono (fun _ _ => trivial))
    have KQ := I5 KV
    simp only [TV.val]
    clear rm KV
    replace X := I5 (X.out.after Kk)
    replace Y := I5 (Y.out.after Kk)
    replace B := B.trans (Kk.mono B.size)
    clear Kk
    go_upto_region 4 with fail
    let x2 := (y2.alloc (.cells #[.int .u8 Ks, .slice FP Kr Ku, .slice FO Kq Kt, .int .u8 mo, .bool Ah, .bool Ag, .slice Ai zA Bt, .bool Ak, .bool Aj, .slice Al zB Bu] 29))
    change Code.wp _ _ _ _ x2
    have M1 : Hid (Box x2 y2.heap.size 29 #[.int .u8 Ks, .slice FP Kr Ku, .slice FO Kq Kt, .int .u8 mo, .bool Ah, .bool Ag, .slice Ai zA Bt, .bool Ak, .bool Aj, .slice Al zB Bu]) := I5 (Box.new _ _ _)
    have fI : Below y2.heap.size y2 x2 := (Below.refl _ _).alloc (Nat.le_refl _) _
    replace X := I5 (X.out.after fI)
    replace Y := I5 (Y.out.after fI)
    replace RM := I5 (RM.out.after fI)
    replace B := B.trans (fI.mono B.size)
    clear fI
    clear_value x2
    generalize y2.heap.size = k1 at *
    have CA := I5 (show Calls Tryz.prog 13 #[.agg #[.int .u8 ay, .slice aw ap av, .slice aA aS az, .int .u8 vo, .bool am, .bool ak, .slice aE aB aD, .bool ar, .bool aq, .slice aI aC aH], .agg #[.int .u8 1, .slice none 0 0, .slice none 0 0, .int .u8 0, .bool false, .bool false, .slice none 0 0, .bool false, .bool false, .slice none 0 0]] x2 (MeetR s0 allT x2) from xz s0 allT ⟨ay, aw, ap, av, aA, aS, az, vo, am, ak, aE, aB, aD, ar, aq, aI, aC, aH⟩ ⟨1, none, 0, 0, none, 0, 0, 0, false, false, none, 0, 0, false, false, none, 0, 0⟩ x2 (Dc.out.after B) (iB _ _ 1 (by omega) none 0 0 [] (Sl.nil _) (.inl rfl)) Km.out Kh (HT.out.after B))
    go_wp2_with (refine ab rfl 29 _ rfl X.out (by rfl) Tryz.underlying29 rfl (by kernel_rfl) ?_)
    refine CA.out.mono ?_
    rintro e z2 ⟨⟨oE, oM, oy, oL, mZ, ox, oK, no, oB, oz, oD, oA, oC, oH, oF, oJ, oG, oI⟩, e2, t2, CZ, rfl, rn, Ko⟩
    clear CA
    obtain ⟨rfl, rfl⟩ : e2 = 0 ∧ s0 = t2 := by
     rcases CZ with ⟨h, _⟩ | ⟨_, h, _⟩ | ⟨_, ⟨q, h⟩, h2⟩
     ·rw [← DJ.out, J4] at h; cases h
     ·rw [JS s0 DJ.out.symm] at h; cases h
     ·rw [JS s0 DJ.out.symm] at h; cases h; exact ⟨h2, rfl⟩
    have RN := I5 (rn.mono (fun _ _ => trivial))
    simp only [TV.val]
    clear rn CZ
    replace X := I5 (X.out.after Ko)
    replace Y := I5 (Y.out.after Ko)
    replace RM := I5 (RM.out.after Ko)
    replace M1 := I5 (M1.out.after Ko)
    replace B := B.trans (Ko.mono B.size)
    clear Ko
    go_upto_region 5 with fail
    let x3 := (z2.alloc (.cells #[.int .u8 oE, .slice oM oy oL, .slice mZ ox oK, .int .u8 no, .bool oB, .bool oz, .slice oD oA oC, .bool oH, .bool oF, .slice oJ oG oI] 29))
    change Code.wp _ _ _ _ x3
    have M2 : Hid (Box x3 z2.heap.size 29 #[.int .u8 oE, .slice oM oy oL, .slice mZ ox oK, .int .u8 no, .bool oB, .bool oz, .slice oD oA oC, .bool oH, .bool oF, .slice oJ oG oI]) := I5 (Box.new _ _ _)
    have Kn : Below z2.heap.size z2 x3 := (Below.refl _ _).alloc (Nat.le_refl _) _
    replace X := I5 (X.out.after Kn)
    replace Y := I5 (Y.out.after Kn)
    replace RM := I5 (RM.out.after Kn)
    replace M1 := I5 (M1.out.after Kn)
    replace RN := I5 (RN.out.after Kn)
    replace B := B.trans (Kn.mono B.size)
    clear Kn
    clear_value x3
    generalize z2.heap.size = k2 at *
    obtain ⟨W, hW⟩ : ∃ b, b = s0.grants s1 := ⟨_, rfl⟩
    have CR := I5 (fun w' (h : Below w.heap.size w w') => mY s0 s1 ⟨ay, aw, ap, av, aA, aS, az, vo, am, ak, aE, aB, aD, ar, aq, aI, aC, aH⟩ ⟨sl, sh, cv, cq, cr, co, ci, cn, cu, cI, cj⟩ w' (Dc.out.after h) (nW.out.after h) Km.out KP.out (by have := K5.out; omega) ep.out (rM G1.out.symm ep.out).2)
    rw [← hW] at CR
    have KW := I5 hW
    clear hW
    go_wp2_with first | (refine ab rfl 29 _ rfl X.out (by rfl) Tryz.underlying29 rfl (by kernel_rfl) ?_) | (refine ab rfl 32 _ rfl Y.out (by rfl) Tryz.underlying32 rfl (by kernel_rfl) ?_)
    refine (CR.out x3 B).mono ?_
    rintro e x4 ⟨rfl, Kl⟩
    replace X := I5 (X.out.after Kl)
    replace Y := I5 (Y.out.after Kl)
    replace RM := I5 (RM.out.after Kl)
    replace M1 := I5 (M1.out.after Kl)
    replace RN := I5 (RN.out.after Kl)
    replace M2 := I5 (M2.out.after Kl)
    replace B := B.trans (Kl.mono B.size)
    clear Kl
    clear CR
    have KS := I5 (fun w' (h : Below x4.heap.size x4 w') => sw s0 s1 ⟨oE, oM, oy, oL, mZ, ox, oK, no, oB, oz, oD, oA, oC, oH, oF, oJ, oG, oI⟩ ⟨sl, sh, cv, cq, cr, co, ci, cn, cu, cI, cj⟩ w' (RN.out.after h) ((nW.out.after B).after h) Km.out KP.out ((HT.out.after B).after h))
    rw [← KW.out] at KS
    have K6 := I5 (fun w' (h : Below x4.heap.size x4 w') => JK s0 ⟨oE, oM, oy, oL, mZ, ox, oK, no, oB, oz, oD, oA, oC, oH, oF, oJ, oG, oI⟩ ⟨ay, aw, ap, av, aA, aS, az, vo, am, ak, aE, aB, aD, ar, aq, aI, aC, aH⟩ w' (RN.out.after h) ((Dc.out.after B).after h))
    have CK := I5 (fun w' (h : Below x4.heap.size x4 w') => ir w' ((HT.out.after B).after h))
    go_upto_region 6 with fail
    rcases KQ.out with ⟨hx, _⟩ | ⟨_, _, rfl, rfl⟩ | ⟨_, ⟨q1, hx⟩, rfl⟩
    ·rw [← DJ.out] at hx; cases hx
    ·clear KQ
     go_step
     refine bC 28 x4.heap.size x4 (Below.refl _ _) ?_
     simp only [List.take_succ_cons, List.take_zero, List.drop_succ_cons, List.drop_zero]
     refine Lg (.int .i64 ((4 : Nat) : Int)) ?_
     simp only [Act.put, I2, I3, I4]
     refine Lg (.bool true) ?_
     simp only [Act.put, I2, I3, I4]
     refine Lg (.bool true) ?_
     simp only [Act.put, I2, I3, I4]
     refine aj rfl ?_
     simp only [Act.put, I2, I3, I4]
     refine aj rfl ?_
     simp only [Act.put, I2, I3, I4]
     refine aj rfl ?_
     simp only [Act.put, I2, I3, I4]
     refine aj rfl ?_
     simp only [Act.put, I2, I3, I4]
     refine aj rfl ?_
     simp only [Act.put, I2, I3, I4]
     refine Lg (.bool true) ?_
     simp only [Act.put, I2, I3, I4]
     refine Lg (.bool true) ?_
     simp only [Act.put, I2, I3, I4]
     refine Lg (.int .i64 0) ?_
     simp only [Act.put, I2, I3, I4]
     refine Lg (.bool true) ?_
     simp only [Act.put, I2, I3, I4]
     refine Lg (.bool true) ?_
     simp only [Act.put, I2, I3, I4]
     refine Lg (.bool true) ?_
     simp only [Act.put, I2, I3, I4]
     refine aU rfl 29 _ rfl M2.out (by rfl) M2.out.lt Tryz.underlying29 rfl (by kernel_rfl) ?_
     simp only [Act.put, I2, I3, I4]
     refine aU rfl 29 _ rfl X.out (by rfl) X.out.lt Tryz.underlying29 rfl (by kernel_rfl) ?_
     simp only [Act.put, I2, I3, I4]
     refine be rfl 14 #[.agg #[.int .u8 oE, .slice oM oy oL, .slice mZ ox oK, .int .u8 no, .bool oB, .bool oz, .slice oD oA oC, .bool oH, .bool oF, .slice oJ oG oI], .agg #[.int .u8 ay, .slice aw ap av, .slice aA aS az, .int .u8 vo, .bool am, .bool ak, .slice aE aB aD, .bool ar, .bool aq, .slice aI aC aH]] (fun w' => by simp [go_sem]) (.bool true) (Nat.le_refl _) (fun w' hw => K6.out w' hw) ?_
     simp only [Act.put, I2, I3, I4]
     refine Lg (.bool true) ?_
     simp only [Act.put, I2, I3, I4]
     refine Lg (.bool true) ?_
     simp only [Act.put, I2, I3, I4]
     refine aU rfl 29 _ rfl M2.out (by rfl) M2.out.lt Tryz.underlying29 rfl (by kernel_rfl) ?_
     simp only [Act.put, I2, I3, I4]
     refine aU rfl 32 _ rfl Y.out (by rfl) Y.out.lt Tryz.underlying32 rfl (by kernel_rfl) ?_
     simp only [Act.put, I2, I3, I4]
     refine be rfl 9 #[.agg #[.int .u8 oE, .slice oM oy oL, .slice mZ ox oK, .int .u8 no, .bool oB, .bool oz, .slice oD oA oC, .bool oH, .bool oF, .slice oJ oG oI], .agg #[.bool sl, .bool sh, .slice cv cq cr, .slice co ci cn, .slice cu cI cj]] (fun w' => by simp [go_sem]) (.bool W) (Nat.le_refl _) (fun w' hw => KS.out w' hw) ?_
     simp only [Act.put, I2, I3, I4]
     refine Lg (.bool W) ?_
     simp only [Act.put, I2, I3, I4]
     refine Lg (.bool true) ?_
     simp only [Act.put, I2, I3, I4]
     refine Lg (.bool true) ?_
     simp only [Act.put, I2, I3, I4]
     refine Lg (.bool true) ?_
     simp only [Act.put, I2, I3, I4]
     refine be rfl 8 #[] (fun w' => by simp [go_sem]) (.bool true) (Nat.le_refl _) (fun w' hw => CK.out w' hw) ?_
     simp only [Act.put, I2, I3, I4]
     refine Lg (.bool true) ?_
     simp only [Act.put, I2, I3, I4]
     intro y9 JD
     replace X := I5 (X.out.after JD)
     replace Y := I5 (Y.out.after JD)
     replace RM := I5 (RM.out.after JD)
     replace M1 := I5 (M1.out.after JD)
     replace RN := I5 (RN.out.after JD)
     replace M2 := I5 (M2.out.after JD)
     replace B := B.trans (JD.mono B.size)
     clear JD
     go_wp2_with fail
     go_ret
     exact ⟨rfl, B⟩
    ·have Lb := I5 (((ef _ _ _ _ _ _ (Fit.of_may Km.out DJ.out.symm) (Fit.of_may Km.out DJ.out.symm) hx)).wide 0 (by omega))
     have Lc := I5 (JY hx DJ.out.symm s1)
     clear KQ hx
     have K7 := I5 (fun w' (h : Below x4.heap.size x4 w') => sw t1 s1 ⟨Ks, FP, Kr, Ku, FO, Kq, Kt, mo, Ah, Ag, Ai, zA, Bt, Ak, Aj, Al, zB, Bu⟩ ⟨sl, sh, cv, cq, cr, co, ci, cn, cu, cI, cj⟩ w' (RM.out.after h) ((nW.out.after B).after h) Lb.out KP.out ((HT.out.after B).after h))
     rw [Lc.out, ← KW.out] at K7
     go_step
     refine bC 28 x4.heap.size x4 (Below.refl _ _) ?_
     simp only [List.take_succ_cons, List.take_zero, List.drop_succ_cons, List.drop_zero]
     refine Lg (.int .i64 ((0 : Nat) : Int)) ?_
     simp only [Act.put, I2, I3, I4]
     refine Lg (.bool false) ?_
     simp only [Act.put, I2, I3, I4]
     refine Lg (.bool false) ?_
     simp only [Act.put, I2, I3, I4]
     refine aU rfl 29 _ rfl M1.out (by rfl) M1.out.lt Tryz.underlying29 rfl (by kernel_rfl) ?_
     simp only [Act.put, I2, I3, I4]
     refine aU rfl 32 _ rfl Y.out (by rfl) Y.out.lt Tryz.underlying32 rfl (by kernel_rfl) ?_
     simp only [Act.put, I2, I3, I4]
     refine be rfl 9 #[.agg #[.int .u8 Ks, .slice FP Kr Ku, .slice FO Kq Kt, .int .u8 mo, .bool Ah, .bool Ag, .slice Ai zA Bt, .bool Ak, .bool Aj, .slice Al zB Bu], .agg #[.bool sl, .bool sh, .slice cv cq cr, .slice co ci cn, .slice cu cI cj]] (fun w' => by simp [go_sem]) (.bool W) (Nat.le_refl _) (fun w' hw => K7.out w' hw) ?_
     simp only [Act.put, I2, I3, I4]
     refine Lg (.bool W) ?_
     simp only [Act.put, I2, I3, I4]
     refine Lg (.bool true) ?_
     simp only [Act.put, I2, I3, I4]
     refine Lg (.bool true) ?_
     simp only [Act.put, I2, I3, I4]
     refine Lg (.bool true) ?_
     simp only [Act.put, I2, I3, I4]
     refine Lg (.int .i64 0) ?_
     simp only [Act.put, I2, I3, I4]
     refine Lg (.bool true) ?_
     simp only [Act.put, I2, I3, I4]
     refine Lg (.bool true) ?_
     simp only [Act.put, I2, I3, I4]
     refine Lg (.bool true) ?_
     simp only [Act.put, I2, I3, I4]
     refine aU rfl 29 _ rfl M2.out (by rfl) M2.out.lt Tryz.underlying29 rfl (by kernel_rfl) ?_
     simp only [Act.put, I2, I3, I4]
     refine aU rfl 29 _ rfl X.out (by rfl) X.out.lt Tryz.underlying29 rfl (by kernel_rfl) ?_
     simp only [Act.put, I2, I3, I4]
     refine be rfl 14 #[.agg #[.int .u8 oE, .slice oM oy oL, .slice mZ ox oK, .int .u8 no, .bool oB, .bool oz, .slice oD oA oC, .bool oH, .bool oF, .slice oJ oG oI], .agg #[.int .u8 ay, .slice aw ap av, .slice aA aS az, .int .u8 vo, .bool am, .bool ak, .slice aE aB aD, .bool ar, .bool aq, .slice aI aC aH]] (fun w' => by simp [go_sem]) (.bool true) (Nat.le_refl _) (fun w' hw => K6.out w' hw) ?_
     simp only [Act.put, I2, I3, I4]
     refine Lg (.bool true) ?_
     simp only [Act.put, I2, I3, I4]
     refine Lg (.bool true) ?_
     simp only [Act.put, I2, I3, I4]
     refine aU rfl 29 _ rfl M2.out (by rfl) M2.out.lt Tryz.underlying29 rfl (by kernel_rfl) ?_
     simp only [Act.put, I2, I3, I4]
     refine aU rfl 32 _ rfl Y.out (by rfl) Y.out.lt Tryz.underlying32 rfl (by kernel_rfl) ?_
     simp only [Act.put, I2, I3, I4]
     refine be rfl 9 #[.agg #[.int .u8 oE, .slice oM oy oL, .slice mZ ox oK, .int .u8 no, .bool oB, .bool oz, .slice oD oA oC, .bool oH, .bool oF, .slice oJ oG oI], .agg #[.bool sl, .bool sh, .slice cv cq cr, .slice co ci cn, .slice cu cI cj]] (fun w' => by simp [go_sem]) (.bool W) (Nat.le_refl _) (fun w' hw => KS.out w' hw) ?_
     simp only [Act.put, I2, I3, I4]
     refine Lg (.bool W) ?_
     simp only [Act.put, I2, I3, I4]
     refine Lg (.bool true) ?_
     simp only [Act.put, I2, I3, I4]
     refine Lg (.bool true) ?_
     simp only [Act.put, I2, I3, I4]
     refine Lg (.bool true) ?_
     simp only [Act.put, I2, I3, I4]
     refine be rfl 8 #[] (fun w' => by simp [go_sem]) (.bool true) (Nat.le_refl _) (fun w' hw => CK.out w' hw) ?_
     simp only [Act.put, I2, I3, I4]
     refine Lg (.bool true) ?_
     simp only [Act.put, I2, I3, I4]
     intro y9 JD
     replace X := I5 (X.out.after JD)
     replace Y := I5 (Y.out.after JD)
     replace RM := I5 (RM.out.after JD)
     replace M1 := I5 (M1.out.after JD)
     replace RN := I5 (RN.out.after JD)
     replace M2 := I5 (M2.out.after JD)
     replace B := B.trans (JD.mono B.size)
     clear JD
     go_wp2_with fail
     go_ret
     exact ⟨rfl, B⟩
end Go.Proofs.YtmmkaclmgnpplaaGreatDoor

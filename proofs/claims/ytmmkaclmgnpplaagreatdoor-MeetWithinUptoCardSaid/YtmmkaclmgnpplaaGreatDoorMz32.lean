import Derived.Test.YtmmkaclmgnpplaaGreatDoorMz31
set_option maxRecDepth 100000
set_option maxHeartbeats 64000000
set_option linter.unusedSimpArgs false
set_option linter.unusedVariables false
namespace Go.Proofs.YtmmkaclmgnpplaaGreatDoor
open Go.RowKit
theorem ld (x : Bd) (c : UInt8) : Sx.nodesL (bnd x c) ≤ 2 := by unfold bnd; split <;> simp [Sx.nodesL, Sx.nodes, at1]
theorem lH (t : Tg) : t.value.nodes ≤ 8 * t.count := by
 induction t using Tg.ind with
 | h kd da ks r ih =>
  have hk : Sx.nodesL (Tg.valueL ks) ≤ 8 * Tg.countL ks := by
   induction ks with
   | nil => simp [Tg.valueL, Sx.nodesL]
   | cons x s ihs =>
    simp only [Tg.valueL, Sx.nodesL, Tg.countL]
    have h1 := ih x List.mem_cons_self
    have h2 := ihs (fun y hy => ih y (List.mem_cons_of_mem _ hy))
    omega
  rw [dd]
  simp only [Tg.count]
  have h1 := ld r.lo 103
  have h2 := ld r.hi 108
  repeat' split
  ·simp [li, at1, Sx.nodes, Sx.nodesL]; omega
  ·simp [at1, Sx.nodes, Sx.nodesL]; omega
  ·simp [li, at1, Sx.nodes, Sx.nodesL]; omega
  ·simp only [ranV, li, at1, Sx.nodes, Sx.nodesL, Sx.nodesL_append]; omega
  ·simp [li, at1, Sx.nodes, Sx.nodesL]; omega
  ·simp [li, at1, Sx.nodes, Sx.nodesL]; omega
theorem mU (t : Tg) : t.value.deep ≤ t.deep := by
 induction t using Tg.ind with
 | h kd da ks r ih =>
  have hk : Sx.deepL (Tg.valueL ks) ≤ Tg.deepL ks := by
   induction ks with
   | nil => simp [Tg.valueL, Sx.deepL]
   | cons x s ihs =>
    simp only [Tg.valueL, Sx.deepL, Tg.deepL]
    have h1 := ih x List.mem_cons_self
    have h2 := ihs (fun y hy => ih y (List.mem_cons_of_mem _ hy))
    omega
  rw [dd]
  simp only [Tg.deep]
  have hb : ∀ (x : Bd) (c : UInt8), Sx.deepL (bnd x c) = 0 := fun x c => by unfold bnd; split <;> simp [Sx.deepL, Sx.deep, at1]
  have ha : ∀ (a b : List Sx), Sx.deepL (a ++ b) = max (Sx.deepL a) (Sx.deepL b) := fun a b => by
   induction a with
   | nil => simp [Sx.deepL]
   | cons x s ihs => simp only [List.cons_append, Sx.deepL, ihs]; omega
  repeat' split
  ·simp [li, at1, Sx.deep, Sx.deepL]
  ·simp [at1, Sx.deep]
  ·simp [li, at1, Sx.deep, Sx.deepL]
  ·simp only [ranV, li, at1, Sx.deep, Sx.deepL, ha, hb]; simp
  ·simp [li, at1, Sx.deep, Sx.deepL]; omega
  ·simp [li, at1, Sx.deep, Sx.deepL]; omega
theorem jf (t : Tg) : ∀ m, t.wide m = false → m + t.deep ≤ 61 := by
 induction t using Tg.ind with
 | h kd da ks r ih =>
  intro m hw
  obtain ⟨h1, _, _, _, _, h6⟩ := cy hw
  simp only [Tg.deep]
  have : Tg.deepL ks ≤ 60 - m := deepL_mem.2 fun x hx => by have := ih x hx (m + 1) (h6 x hx); omega
  omega
theorem uE {ks : List Sx} {c : Nat} (h : ∀ k ∈ ks, k.form.length ≤ c * k.nodes) : (Sx.formL ks).length ≤ c * Sx.nodesL ks := by
 induction ks with
 | nil => simp [Sx.formL, Sx.nodesL]
 | cons x r ih =>
  simp only [Sx.formL, Sx.nodesL, List.length_append, Nat.mul_add]
  have h1 := h x List.mem_cons_self
  have h2 := ih (fun k hk => h k (List.mem_cons_of_mem _ hk))
  omega
theorem kb {l : List UInt8} (h : l.length ≤ 5000) : (at1 l).form.length ≤ 5100 * (at1 l).nodes := by
 have h1 := iz l (by omega)
 simp only [at1, eR, Sx.nodes, Sx.nodesL]
 simp
 omega
theorem jS {ks : List Sx} (h : ∀ k ∈ ks, k.form.length ≤ 5100 * k.nodes) : (li ks).form.length ≤ 5100 * (li ks).nodes := by
 have h1 := uE h
 simp only [li, eR, Sx.nodes]
 simp
 omega
theorem mT (t : Tg) : ∀ m, t.wide m = false → t.value.form.length ≤ 5100 * t.value.nodes := by
 induction t using Tg.ind with
 | h kd da ks r ih =>
  intro m hw
  obtain ⟨_, _, g3, g4, g5, g6⟩ := cy hw
  have hk : ∀ x ∈ Tg.valueL ks, x.form.length ≤ 5100 * x.nodes := by
   intro x hx
   rw [aQ] at hx
   obtain ⟨y, hy, rfl⟩ := List.mem_map.1 hx
   exact ih y hy (m + 1) (g6 y hy)
  have hs : ∀ (s : List UInt8), s.length ≤ 100 → (at1 s).form.length ≤ 5100 * (at1 s).nodes := fun s h => kb (by omega)
  have hb : ∀ (x : Bd) (c : UInt8), x.att.length ≤ 200 → ∀ k ∈ bnd x c, k.form.length ≤ 5100 * k.nodes := fun x c hx k hk => by
   unfold bnd at hk
   split at hk
   ·simp only [List.mem_cons, List.not_mem_nil, or_false] at hk
    rcases hk with rfl | rfl
    ·exact hs _ (by split <;> simp)
    ·exact kb (by omega)
   ·cases hk
  rw [dd]
  split
  ·exact jS (fun k h => by simp at h; rw [h]; exact hs _ (by decide))
  split
  ·exact kb g3
  split
  ·refine jS (fun k h => ?_)
   simp only [List.mem_cons, List.not_mem_nil, or_false] at h
   rcases h with rfl | rfl | rfl
   ·exact hs _ (by decide)
   ·exact hs _ (by decide)
   ·exact kb g3
  split
  ·refine jS (fun k h => ?_)
   simp only [List.mem_cons, List.mem_append] at h
   rcases h with rfl | rfl | rfl | h | h
   ·exact hs _ (by decide)
   ·exact hs _ (by decide)
   ·exact hs _ (by have := nE r.o; omega)
   ·exact hb _ _ g4 k h
   ·exact hb _ _ g5 k h
  split
  ·refine jS (fun k h => ?_)
   simp only [List.mem_cons] at h
   rcases h with rfl | rfl | h
   ·exact hs _ (by decide)
   ·exact hs _ (by decide)
   ·exact hk k h
  ·exact jS hk
theorem qJ (t : Tg) (m : Nat) (hw : t.wide m = false) (hn : t.value.nodes ≤ 512) : t.value.form.length ≤ 70368744177664 := by
 have := mT t m hw
 omega
theorem pJ (t : Tg) (v : TV) (m : Nat) (w : World) (hr : RdT (fun _ => True) w v t) (hw : t.wide m = false) (hc : t.count < 576460752303423488) : Calls Tryz.prog 12 #[v.val] w fun e w' => e = .returned (.bool t.may) ∧ Below w.heap.size w w' := by
 have gU := I5 hr.there
 have HW := I5 hw
 have HC := I5 hc
 have Dc := I5 hr
 clear hr hw hc
 obtain ⟨ay, aw, ap, av, aA, aS, az, vo, am, ak, aE, aB, aD, ar, aq, aI, aC, aH⟩ := v
 have HD := I5 (show t.may = (t.ok && t.value.may) from rfl)
 have C1 := I5 (fun w' (h : Below w.heap.size w w') => mW t ⟨ay, aw, ap, av, aA, aS, az, vo, am, ak, aE, aB, aD, ar, aq, aI, aC, aH⟩ m w' (Dc.out.after h) HW.out)
 obtain ⟨r1, p6⟩ : ∃ r, r = t.ok := ⟨_, rfl⟩
 rw [← p6] at C1 HD
 have nW := I5 p6
 clear p6
 let x0 := (w.alloc (.cells #[.int .u8 ay, .slice aw ap av, .slice aA aS az, .int .u8 vo, .bool am, .bool ak, .slice aE aB aD, .bool ar, .bool aq, .slice aI aC aH] 29))
 have B : Below w.heap.size w x0 := (Below.refl _ _).alloc (Nat.le_refl _) _
 have X : Hid (Box x0 w.heap.size 29 #[.int .u8 ay, .slice aw ap av, .slice aA aS az, .int .u8 vo, .bool am, .bool ak, .slice aE aB aD, .bool ar, .bool aq, .slice aI aC aH]) := I5 (Box.new _ _ _)
 show Calls _ _ #[.agg #[.int .u8 ay, .slice aw ap av, .slice aA aS az, .int .u8 vo, .bool am, .bool ak, .slice aE aB aD, .bool ar, .bool aq, .slice aI aC aH]] _ _
 go_enter Tryz.func12, Tryz.ntmps12
 go_upto_region 1 with fail
 change Code.wp _ _ _ _ x0
 clear_value x0
 go_wp2_with (refine ab rfl 29 _ rfl X.out (by rfl) Tryz.underlying29 rfl (by kernel_rfl) ?_)
 refine (C1.out x0 B).mono ?_
 rintro e x1 ⟨rfl, bx1⟩
 replace X := I5 (X.out.after bx1)
 replace B := B.trans (bx1.mono B.size)
 clear bx1
 clear C1
 cases r1 with
 | false =>
  have HF : Hid (t.may = false) := I5 (by rw [HD.out]; rfl)
  go_wp2_with fail
  go_ret
  exact ⟨by rw [HF.out] <;> rfl, B⟩
 | true =>
  have HF : Hid (t.may = t.value.may) := I5 (by rw [HD.out]; rfl)
  clear HD
  go_wp2_with (refine ab rfl 29 _ rfl X.out (by rfl) Tryz.underlying29 rfl (by kernel_rfl) ?_)
  refine (mV t ⟨ay, aw, ap, av, aA, aS, az, vo, am, ak, aE, aB, aD, ar, aq, aI, aC, aH⟩ m w.heap.size x1 B.size ((gU.out.mono (fun b hb => hb.2)).after B) nW.out.symm HW.out).mono ?_
  rintro e x2 ⟨⟨tl, th, bR, bN, bP, bQ, bL, bO, gG, gE, gF⟩, rfl, rt, bx2⟩
  replace X := I5 (X.out.after bx2)
  replace B := B.trans (bx2.mono B.size)
  clear bx2
  have RT := I5 rt
  clear rt
  unfold SV.val
  have CM := I5 (lU t.value ⟨tl, th, bR, bN, bP, bQ, bL, bO, gG, gE, gF⟩ x2 (RT.out.mono (fun _ _ => trivial)) (by have h1 := lH t; have h2 := HC.out; omega) (by have h1 := mU t; have h2 := jf t m HW.out; omega) (fun hn => qJ t m HW.out hn))
  obtain ⟨r3, yK⟩ : ∃ r, r = t.value.may := ⟨_, rfl⟩
  rw [← yK] at CM HF
  clear yK
  go_wp2_with fail
  refine CM.out.mono ?_
  rintro e z9 ⟨rfl, bz9⟩
  replace B := B.trans (bz9.mono B.size)
  go_wp2_with fail
  go_ret
  exact ⟨by rw [HF.out] <;> rfl, B⟩
theorem wG (s : Sx) : headB s ⟨#[42]⟩ = headS s := by
 unfold headB headS isB isStar
 have h : (⟨#[42]⟩ : ByteArray).toList = [42] := by simp
 rw [h]
 rfl
theorem xg (s : Sx) : ∀ (v : SV) (w : World), Rd w v s → Calls Tryz.prog 44 #[v.val] w fun e w' => e = .returned (.bool s.conR) ∧ Below w.heap.size w w' := by
 induction s using Sx.ind with
 | h l hh hi da ks ih =>
 intro v w hr
 have IH := I5 ih
 have gU := I5 hr
 clear ih
 obtain ⟨eQ, fK, an, aO, hn, ie, ea, K, ah, hk⟩ := hr.parts
 obtain ⟨vl, vh, aw, ap, av, aA, aS, az, cM, dO, cz⟩ := v
 dsimp only at hn ie ea ah hk eQ fK an aO
 obtain rfl : vl = l := eQ
 obtain rfl : vh = hh := fK
 replace hn : dO = ks.length := hn
 subst hn
 have HR := I5 ah
 have HK := I5 hk
 clear hr an aO ah hk
 unfold maxLen at ea
 have HD := I5 (qv vl vh hi da ks)
 have CS := I5 (fun w' (h : Below w.heap.size w w') => pK (.mk vl vh hi da ks) ⟨#[42]⟩ ⟨vl, vh, aw, ap, av, aA, aS, az, cM, ks.length, cz⟩ w' (gU.out.after h))
 simp only [wG] at CS
 generalize (Sx.mk vl vh hi da ks).conR = R at *
 generalize headS (.mk vl vh hi da ks) = q9 at *
 unfold SV.val
 let x0 := (w.alloc (.cells #[.bool vl, .bool vh, .slice aw ap av, .slice aA aS az, .slice cM ks.length cz] 32))
 have B : Below w.heap.size w x0 := (Below.refl _ _).alloc (Nat.le_refl _) _
 have X : Hid (Box x0 w.heap.size 32 #[.bool vl, .bool vh, .slice aw ap av, .slice aA aS az, .slice cM ks.length cz]) := I5 (Box.new _ _ _)
 show Calls _ _ #[.agg #[.bool vl, .bool vh, .slice aw ap av, .slice aA aS az, .slice cM ks.length cz]] _ _
 go_enter Tryz.func44, Tryz.ntmps44
 go_upto_region 1 with fail
 change Code.wp _ _ _ _ x0
 clear_value x0
 have x1c := X.out.cell 1 rfl
 cases vh with
 | true =>
  have HF : Hid (R = false) := I5 (by rw [HD.out]; rfl)
  clear CS
  go_wp2_with fail
  go_ret
  exact ⟨by rw [HF.out] <;> rfl, B⟩
 | false =>
  have pf : Hid (R = (!q9 && Sx.conRL ks)) := I5 (by rw [HD.out]; rfl)
  clear HD
  go_wp2_with (refine ab rfl 32 _ rfl X.out (by rfl) Tryz.underlying32 rfl (by kernel_rfl) ?_)
  refine (CS.out x0 B).mono ?_
  rintro e x1 ⟨rfl, bx1⟩
  replace X := I5 (X.out.after bx1)
  replace B := B.trans (bx1.mono B.size)
  clear bx1
  clear CS x1c
  cases q9 with
  | true =>
   have HF : Hid (R = false) := I5 (by rw [pf.out]; rfl)
   go_wp2_with fail
   go_ret
   exact ⟨by rw [HF.out] <;> rfl, B⟩
  | false =>
   have iY : Hid (R = Sx.conRL ks) := I5 (by rw [pf.out]; rfl)
   have x4c := X.out.cell 4 rfl
   go_wp2_with fail
   go_loopw [3, 13] (fun _ i wr => ∃ k : Nat, k ≤ ks.length ∧ i = .int .i64 k ∧ Hid (Sx.conRL (ks.take k) = true) ∧ Below w.heap.size w wr ∧ Box wr w.heap.size 32 #[.bool vl, .bool false, .slice aw ap av, .slice aA aS az, .slice cM ks.length cz]) (fun _ i _ => ks.length - (intOf i).toNat)
   case atStart => exact ⟨0, Nat.zero_le _, rfl, I5 rfl, B, X.out⟩
   case round =>
    clear x4c X B
    obtain ⟨k, fy, rfl, gy, B, hX⟩ := hrel
    have X := I5 hX
    clear hX
    have x4c := X.out.cell 4 rfl
    by_cases aJ : k < ks.length
    case neg =>
     have fS : ¬ (k : Int) < ks.length := by omega
     have HF : Hid (R = true) := I5 (by rw [iY.out, ← gy.out, List.take_of_length_le (by omega)])
     go_wp2_with fail
     go_ret
     exact ⟨by rw [HF.out] <;> rfl, B⟩
    case pos =>
     have fS : (k : Int) < ks.length := by omega
     have cL : (0 : Int) ≤ k := by omega
     obtain ⟨b, o, rfl, a8⟩ := (HR.out.after B).range aJ
     have fM := I5 a8
     clear a8
     have jy := I5 (sa ks k aJ)
     obtain ⟨ck, fT⟩ : ∃ ck, ck = ks[k].conR := ⟨_, rfl⟩
     have IH2 := I5 (IH.out _ (List.getElem_mem aJ) (K k) wr ((HK.out k aJ).after B))
     rw [← fT] at IH2 jy
     have gQ := I5 fT
     clear fT
     go_wp2_with (refine aY rfl _ rfl b _ rfl _ fM.out ?_)
     refine IH2.out.mono ?_
     rintro e z1 ⟨rfl, af⟩
     replace B := B.trans (af.mono B.size)
     replace X := I5 (X.out.after af)
     clear af IH2 fM
     cases ck with
     | false =>
      have HF : Hid (R = false) := I5 (by rw [iY.out]; exact xh aJ gQ.out.symm)
      go_wp2_with fail
      go_ret
      exact ⟨by rw [HF.out] <;> rfl, B⟩
     | true =>
      go_wp2_with fail
      go_roundw
      case rel => exact ⟨k + 1, by omega, by go_num, I5 (by rw [jy.out, gy.out]; rfl), B, X.out⟩
      case measure => simp [intOf]; omega
theorem qY (s : Sx) (v : SV) (w : World) (hr : Rd w v s) (hn : s.nodes < 4611686018427387904) (hd : s.deep ≤ 4611686018427387904) (hf : s.nodes ≤ 512 → s.form.length ≤ 70368744177664) : Calls Tryz.prog 23 #[v.val] w fun e w' => e = .returned (.bool s.req) ∧ Below w.heap.size w w' := by
 have gU := I5 hr
 clear hr
 obtain ⟨vl, vh, aw, ap, av, aA, aS, az, cM, dO, cz⟩ := v
 have C1 := I5 (fun w' (h : Below w.heap.size w w') => lU s ⟨vl, vh, aw, ap, av, aA, aS, az, cM, dO, cz⟩ w' (gU.out.after h) hn hd hf)
 have C2 := I5 (fun w' (h : Below w.heap.size w w') => xg s ⟨vl, vh, aw, ap, av, aA, aS, az, cM, dO, cz⟩ w' (gU.out.after h))
 have HD := I5 (xP s).symm
 generalize s.req = R at *
 clear hf
 generalize s.may = r1 at *
 generalize s.conR = r2 at *
 unfold SV.val
 let x0 := (w.alloc (.cells #[.bool vl, .bool vh, .slice aw ap av, .slice aA aS az, .slice cM dO cz] 32))
 have B : Below w.heap.size w x0 := (Below.refl _ _).alloc (Nat.le_refl _) _
 have X : Hid (Box x0 w.heap.size 32 #[.bool vl, .bool vh, .slice aw ap av, .slice aA aS az, .slice cM dO cz]) := I5 (Box.new _ _ _)
 show Calls _ _ #[.agg #[.bool vl, .bool vh, .slice aw ap av, .slice aA aS az, .slice cM dO cz]] _ _
 go_enter Tryz.func23, Tryz.ntmps23
 go_upto_region 1 with fail
 change Code.wp _ _ _ _ x0
 clear_value x0
 go_wp2_with (refine ab rfl 32 _ rfl X.out (by rfl) Tryz.underlying32 rfl (by kernel_rfl) ?_)
 refine (C1.out x0 B).mono ?_
 rintro e x1 ⟨rfl, bx1⟩
 replace X := I5 (X.out.after bx1)
 replace B := B.trans (bx1.mono B.size)
 clear bx1
 clear C1
 cases r1 with
 | false =>
  have HF : Hid (R = false) := I5 (by rw [HD.out]; rfl)
  go_wp2_with fail
  go_ret
  exact ⟨by rw [HF.out] <;> rfl, B⟩
 | true =>
  have HF : Hid (R = r2) := I5 (by rw [HD.out]; rfl)
  go_wp2_with (refine ab rfl 32 _ rfl X.out (by rfl) Tryz.underlying32 rfl (by kernel_rfl) ?_)
  refine (C2.out x1 B).mono ?_
  rintro e x2 ⟨rfl, bx2⟩
  replace X := I5 (X.out.after bx2)
  replace B := B.trans (bx2.mono B.size)
  clear bx2
  go_wp2_with fail
  go_ret
  exact ⟨by rw [HF.out] <;> rfl, B⟩
end Go.Proofs.YtmmkaclmgnpplaaGreatDoor

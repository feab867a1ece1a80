import Derived.Test.YtmmkaclmgnpplaaGreatDoorMz27
set_option maxRecDepth 100000
set_option maxHeartbeats 64000000
set_option linter.unusedSimpArgs false
set_option linter.unusedVariables false
namespace Go.Proofs.YtmmkaclmgnpplaaGreatDoor
open Go.RowKit
theorem vH {ks : List Sx} {m : Nat} (h : ∀ k ∈ ks, k.wide m = false) : Sx.wideL ks m = false := by
 induction ks with
 | nil => rfl
 | cons x r ih => simp only [Sx.wideL]; rw [h x List.mem_cons_self, ih (fun k hk => h k (List.mem_cons_of_mem _ hk))]; rfl
theorem it (l : List UInt8) (q : Nat) (hl : l.length ≤ 5000) (hq : q ≤ 60) : (at1 l).wide q = false := by
 simp only [at1, eL, Sx.wideL]; simp; omega
theorem jR {ks : List Sx} {q : Nat} (hq : q ≤ 60) (hl : ks.length ≤ 700) (h : ∀ k ∈ ks, k.wide (q + 1) = false) : (li ks).wide q = false := by
 unfold li
 rw [eL, vH h]
 simp
 omega
theorem qB {x : Bd} {c : UInt8} (hl : x.att.length ≤ 5000) {q : Nat} (hq : q ≤ 60) : ∀ k ∈ bnd x c, k.wide q = false := by
 intro k hk
 unfold bnd at hk
 split at hk
 ·simp only [List.mem_cons, List.not_mem_nil, or_false] at hk
  rcases hk with rfl | rfl
  ·exact it _ _ (by split <;> simp) hq
  ·exact it _ _ hl hq
 ·cases hk
theorem lA (x : Bd) (c : UInt8) : (bnd x c).length ≤ 2 := by unfold bnd; split <;> simp
theorem nE (o : Nat) : (nameO o).length ≤ 7 := by unfold nameO; (repeat' split) <;> simp
theorem mB {ks : List Tg} : ks.length ≤ Tg.countL ks := by
 induction ks with
 | nil => simp [Tg.countL]
 | cons x s ih => have := kV x; simp only [Tg.countL, List.length_cons]; omega
theorem r7 {ks : List Tg} {x : Tg} (h : x ∈ ks) : x.count ≤ Tg.countL ks := by
 induction ks with
 | nil => cases h
 | cons y s ih =>
  simp only [Tg.countL]
  rcases List.mem_cons.1 h with rfl | h
  ·omega
  ·have := ih h; omega
theorem pp (t : Tg) : ∀ (q m : Nat), t.wide m = false → t.count ≤ 512 → q + t.deep ≤ 59 → t.value.wide q = false := by
 induction t using Tg.ind with
 | h kd da ks r ih =>
  intro q m hw hc hd
  obtain ⟨_, g2, g3, g4, g5, g6⟩ := cy hw
  simp only [Tg.count, Tg.deep] at hc hd
  have hl := mB (ks := ks)
  have hk : ∀ x ∈ Tg.valueL ks, x.wide (q + 1) = false := by
   intro x hx
   rw [aQ] at hx
   obtain ⟨y, hy, rfl⟩ := List.mem_map.1 hx
   have h1 := r7 hy
   have h2 := deepL_mem.1 (Nat.le_refl (Tg.deepL ks)) y hy
   exact ih y hy (q + 1) (m + 1) (g6 y hy) (by omega) (by omega)
  have hs : ∀ (s : List UInt8), s.length ≤ 100 → (at1 s).wide (q + 1) = false := fun s h => it _ _ (by omega) (by omega)
  rw [dd]
  split
  ·exact jR (by omega) (by simp) (fun k h => by simp at h; rw [h]; exact hs _ (by decide))
  split
  ·exact it _ _ g3 (by omega)
  split
  ·refine jR (by omega) (by simp) (fun k h => ?_)
   simp only [List.mem_cons, List.not_mem_nil, or_false] at h
   rcases h with rfl | rfl | rfl
   ·exact hs _ (by decide)
   ·exact hs _ (by decide)
   ·exact it _ _ g3 (by omega)
  split
  ·have b1 := lA r.lo 103
   have b2 := lA r.hi 108
   refine jR (by omega) (by simp; omega) (fun k h => ?_)
   simp only [List.mem_cons, List.mem_append] at h
   rcases h with rfl | rfl | rfl | h | h
   ·exact hs _ (by decide)
   ·exact hs _ (by decide)
   ·exact hs _ (by have := nE r.o; omega)
   ·exact qB (by omega) (by omega) k h
   ·exact qB (by omega) (by omega) k h
  split
  ·refine jR (by omega) (by rw [List.length_cons, List.length_cons, aQ, List.length_map]; omega) (fun k h => ?_)
   simp only [List.mem_cons] at h
   rcases h with rfl | rfl | h
   ·exact hs _ (by decide)
   ·exact hs _ (by decide)
   ·exact hk k h
  ·exact jR (by omega) (by rw [aQ, List.length_map]; omega) hk
theorem jQ (t : Tg) (v : TV) (m : Nat) (w : World) (hr : RdT (fun _ => True) w v t) (hw : t.wide m = false) (ht : Tab w) : Calls Tryz.prog 20 #[v.val] w fun e w' => e = .returned (.bool t.may) ∧ Below w.heap.size w w' := by
 have gU := I5 hr
 have HT := I5 ht
 have HW := I5 hw
 clear hr ht hw
 have HD := I5 (me t).symm
 obtain ⟨ay, aw, ap, av, aA, aS, az, vo, am, ak, aE, aB, aD, ar, aq, aI, aC, aH⟩ := v
 obtain ⟨f, hf⟩ : ∃ f, f = t.few 512 := ⟨_, rfl⟩
 have DL := I5 (nP t)
 have C1 := I5 (fun w' (h : Below w.heap.size w w') => l9 t ⟨ay, aw, ap, av, aA, aS, az, vo, am, ak, aE, aB, aD, ar, aq, aI, aC, aH⟩ 512 w' (gU.out.after h) (by omega) (by omega))
 rw [← hf] at C1 DL
 clear hf
 obtain ⟨r1, p6⟩ : ∃ r, r = t.right 1 := ⟨_, rfl⟩
 have C2 := I5 (fun w' (h : Below w.heap.size w w') => qW t ⟨ay, aw, ap, av, aA, aS, az, vo, am, ak, aE, aB, aD, ar, aq, aI, aC, aH⟩ m 1 w' (gU.out.after h) HW.out (by omega))
 simp only [← p6, show ((1 : Nat) : Int) = 1 from rfl] at C2
 have nW := I5 p6
 clear p6
 let x0 := (w.alloc (.cells #[.int .u8 ay, .slice aw ap av, .slice aA aS az, .int .u8 vo, .bool am, .bool ak, .slice aE aB aD, .bool ar, .bool aq, .slice aI aC aH] 29))
 have B : Below w.heap.size w x0 := (Below.refl _ _).alloc (Nat.le_refl _) _
 have X : Hid (Box x0 w.heap.size 29 #[.int .u8 ay, .slice aw ap av, .slice aA aS az, .int .u8 vo, .bool am, .bool ak, .slice aE aB aD, .bool ar, .bool aq, .slice aI aC aH]) := I5 (Box.new _ _ _)
 show Calls _ _ #[.agg #[.int .u8 ay, .slice aw ap av, .slice aA aS az, .int .u8 vo, .bool am, .bool ak, .slice aE aB aD, .bool ar, .bool aq, .slice aI aC aH]] _ _
 go_enter Tryz.func20, Tryz.ntmps20
 go_upto_region 1 with fail
 change Code.wp _ _ _ _ x0
 clear_value x0
 go_wp2_with (refine ab rfl 29 _ rfl X.out (by rfl) Tryz.underlying29 rfl (by kernel_rfl) ?_)
 refine (C1.out x0 B).mono ?_
 rintro e x1 ⟨rfl, bx1⟩
 replace X := I5 (X.out.after bx1)
 replace B := B.trans (bx1.mono B.size)
 clear bx1
 clear C1
 by_cases hf : f ≤ 512
 case neg =>
  have HF : Hid (t.may = false) := I5 (by rw [HD.out, ← DL.out, decide_eq_false hf]; rfl)
  go_wp2_with fail
  go_ret
  exact ⟨by rw [HF.out]; rfl, B⟩
 have HC := I5 (of_decide_eq_true (DL.out.symm.trans (decide_eq_true hf)))
 have pf : Hid (t.may = (r1 && t.value.may)) := I5 (by rw [HD.out, decide_eq_true HC.out, nW.out]; rfl)
 clear HD DL
 go_wp2_with (refine ab rfl 29 _ rfl X.out (by rfl) Tryz.underlying29 rfl (by kernel_rfl) ?_)
 refine (C2.out x1 B).mono ?_
 rintro e x2 ⟨rfl, bx2⟩
 replace X := I5 (X.out.after bx2)
 replace B := B.trans (bx2.mono B.size)
 clear bx2
 clear C2
 cases r1 with
 | false =>
  have HF : Hid (t.may = false) := I5 (by rw [pf.out]; rfl)
  go_wp2_with fail
  go_ret
  exact ⟨by rw [HF.out]; rfl, B⟩
 | true =>
  have HO := I5 ((jG t 1).1 nW.out.symm)
  have HF : Hid (t.may = t.value.may) := I5 (by rw [pf.out]; rfl)
  clear pf
  go_wp2_with (refine ab rfl 29 _ rfl X.out (by rfl) Tryz.underlying29 rfl (by kernel_rfl) ?_)
  refine (qL t ⟨ay, aw, ap, av, aA, aS, az, vo, am, ak, aE, aB, aD, ar, aq, aI, aC, aH⟩ m x2 (gU.out.after B) HO.out.1 HW.out).mono ?_
  rintro e x3 ⟨⟨tl, th, bR, bN, bP, bQ, bL, bO, gG, gE, gF⟩, rfl, rt, bx3⟩
  replace X := I5 (X.out.after bx3)
  replace B := B.trans (bx3.mono B.size)
  clear bx3
  have RT := I5 rt
  clear rt
  unfold SV.val
  have CM := I5 (lw t.value ⟨tl, th, bR, bN, bP, bQ, bL, bO, gG, gE, gF⟩ x3 (RT.out.mono (fun _ _ => trivial)) 0 (pp t 0 m HW.out HC.out (by have := HO.out.2; omega)) (HT.out.after B))
  obtain ⟨r3, yK⟩ : ∃ r, r = t.value.may := ⟨_, rfl⟩
  rw [← yK] at CM HF
  clear yK
  go_wp2_with fail
  refine CM.out.mono ?_
  rintro e z9 ⟨rfl, bz9⟩
  replace B := B.trans (bz9.mono B.size)
  go_wp2_with fail
  go_ret
  exact ⟨by rw [HF.out] <;> rfl, B⟩
theorem fY {P : Program} {o : Oper} {a : Act} {w : World} {ty : TypeId} {x : Operand} (ho : o.op = .load ty x) {b k : Nat} {cs : List Value} (hg : w.rangeAt b k cs) (hx : a.eval x = .pointer (some ⟨b, k, none⟩)) {d : TypeDesc}
  (hu : P.underlying ty = some d) (hd : d.isRow = true) (hi : (P.info? ty).map (·.size) = some cs.length) : (execOp a.eval o).run P w = .ok (.value (.agg cs.toArray)) w := by
 unfold execOp
 simp only [ho, hx, Instr.loadAt, Instr.sureAddr, Sem.run_bind, Sem.run_pure, Result.andThen_ok, run_loadVar_mid w b k ty cs d hg hu hd hi]
theorem gH (s : Sx) (v : SV) (w : World) (hr : Rd w v s) : Calls Tryz.prog 74 #[v.val] w fun e w' => e = .returned (.bool (starS s)) ∧ Below w.heap.size w w' := by
 obtain ⟨l, hh, hi, da, ks⟩ := s
 obtain ⟨eQ, fK, an, aO, hn, ie, ea, K, ah, hk⟩ := hr.parts
 obtain ⟨vl, vh, aw, ap, av, aA, aS, az, cM, dO, cz⟩ := v
 dsimp only at hn ie ea ah hk eQ fK an aO
 obtain rfl : vl = l := eQ
 obtain rfl : vh = hh := fK
 replace hn : dO = ks.length := hn
 subst hn
 have HR := I5 ah
 have HK := I5 hk
 clear hr an aO ah hk
 unfold maxLen at ea
 have HD := I5 (show starS (.mk vl vh hi da ks) = (vl && starK ks) from rfl)
 generalize starS (.mk vl vh hi da ks) = R at *
 let x0 := (w.alloc (.cells #[.bool vl, .bool vh, .slice aw ap av, .slice aA aS az, .slice cM ks.length cz] 32))
 have B : Below w.heap.size w x0 := (Below.refl _ _).alloc (Nat.le_refl _) _
 have X : Hid (Box x0 w.heap.size 32 #[.bool vl, .bool vh, .slice aw ap av, .slice aA aS az, .slice cM ks.length cz]) := I5 (Box.new _ _ _)
 show Calls _ _ #[.agg #[.bool vl, .bool vh, .slice aw ap av, .slice aA aS az, .slice cM ks.length cz]] _ _
 go_enter Tryz.func74, Tryz.ntmps74
 go_upto_region 1 with fail
 change Code.wp _ _ _ _ x0
 clear_value x0
 cases vl with
 | false =>
  have HF : Hid (R = false) := I5 (by rw [HD.out]; rfl)
  refine aP x0.heap.size x0 rfl (by kernel_rfl) (Below.refl _ _) ?_
  refine aa rfl (.pointer (some ⟨w.heap.size, 0, none⟩)) (fun w' hw => by simp [go_sem]) ?_
  simp only [Act.put, I2, I3, I4]
  refine aa rfl (.bool false) (fun w' hw => by have := (X.out.after hw).cell 0 rfl; simp [go_sem, this]) ?_
  simp only [Act.put, I2, I3, I4]
  refine aa rfl (.bool false) (fun w' hw => by simp [go_sem]) ?_
  simp only [Act.put, I2, I3, I4]
  refine aj rfl ?_
  simp only [Act.put, I2, I3, I4]
  refine aj rfl ?_
  simp only [Act.put, I2, I3, I4]
  refine aj rfl ?_
  simp only [Act.put, I2, I3, I4]
  refine aj rfl ?_
  simp only [Act.put, I2, I3, I4]
  refine aa rfl (.bool false) (fun w' hw => by simp [go_sem]) ?_
  simp only [Act.put, I2, I3, I4]
  refine aa rfl (.bool false) (fun w' hw => by simp [go_sem]) ?_
  simp only [Act.put, I2, I3, I4]
  refine aj rfl ?_
  simp only [Act.put, I2, I3, I4]
  refine aj rfl ?_
  simp only [Act.put, I2, I3, I4]
  refine aj rfl ?_
  simp only [Act.put, I2, I3, I4]
  refine aj rfl ?_
  simp only [Act.put, I2, I3, I4]
  refine aj rfl ?_
  simp only [Act.put, I2, I3, I4]
  refine aj rfl ?_
  simp only [Act.put, I2, I3, I4]
  refine aa rfl (.bool false) (fun w' hw => by simp [go_sem]) ?_
  simp only [Act.put, I2, I3, I4]
  refine aa rfl (.bool false) (fun w' hw => by simp [go_sem]) ?_
  simp only [Act.put, I2, I3, I4]
  intro y1 af
  replace X := I5 (X.out.after af)
  replace B := B.trans (af.mono B.size)
  clear af
  go_wp2_with fail
  go_ret
  exact ⟨by rw [HF.out]; rfl, B⟩
 | true =>
  cases ks with
  | nil =>
   have HF : Hid (R = false) := I5 (by rw [HD.out]; rfl)
   refine aP x0.heap.size x0 rfl (by kernel_rfl) (Below.refl _ _) ?_
   refine aa rfl (.pointer (some ⟨w.heap.size, 0, none⟩)) (fun w' hw => by simp [go_sem]) ?_
   simp only [Act.put, I2, I3, I4]
   refine aa rfl (.bool true) (fun w' hw => by have := (X.out.after hw).cell 0 rfl; simp [go_sem, this]) ?_
   simp only [Act.put, I2, I3, I4]
   refine aa rfl (.bool true) (fun w' hw => by simp [go_sem]) ?_
   simp only [Act.put, I2, I3, I4]
   refine aa rfl (.pointer (some ⟨w.heap.size, 4, none⟩)) (fun w' hw => by simp [go_sem]) ?_
   simp only [Act.put, I2, I3, I4]
   refine aa rfl (.slice cM 0 cz) (fun w' hw => by have := (X.out.after hw).cell 4 rfl; simp [go_sem, this]) ?_
   simp only [Act.put, I2, I3, I4]
   refine aa rfl (.int .i64 0) (fun w' hw => by simp [go_sem]) ?_
   simp only [Act.put, I2, I3, I4]
   refine aa rfl (.bool false) (fun w' hw => by simp [go_sem]) ?_
   simp only [Act.put, I2, I3, I4]
   refine aa rfl (.bool false) (fun w' hw => by simp [go_sem]) ?_
   simp only [Act.put, I2, I3, I4]
   refine aa rfl (.bool false) (fun w' hw => by simp [go_sem]) ?_
   simp only [Act.put, I2, I3, I4]
   refine aj rfl ?_
   simp only [Act.put, I2, I3, I4]
   refine aj rfl ?_
   simp only [Act.put, I2, I3, I4]
   refine aj rfl ?_
   simp only [Act.put, I2, I3, I4]
   refine aj rfl ?_
   simp only [Act.put, I2, I3, I4]
   refine aj rfl ?_
   simp only [Act.put, I2, I3, I4]
   refine aj rfl ?_
   simp only [Act.put, I2, I3, I4]
   refine aa rfl (.bool false) (fun w' hw => by simp [go_sem]) ?_
   simp only [Act.put, I2, I3, I4]
   refine aa rfl (.bool false) (fun w' hw => by simp [go_sem]) ?_
   simp only [Act.put, I2, I3, I4]
   intro y1 af
   replace X := I5 (X.out.after af)
   replace B := B.trans (af.mono B.size)
   clear af
   go_wp2_with fail
   go_ret
   exact ⟨by rw [HF.out]; rfl, B⟩
  | cons k ks =>
   have hz : 0 < (k :: ks).length := by simp
   obtain ⟨n, hn⟩ : ∃ n, n = (k :: ks).length := ⟨_, rfl⟩
   obtain ⟨b, o, rfl, a8⟩ := (HR.out.after B).range hz
   have H0 : Rd w (K 0) k := HK.out 0 hz
   rw [← hn] at X hz
   have BU : (0 : Int) < n := by omega
   clear HK HR hn
   have HF : Hid (R = k.same (at1 starL)) := I5 (by rw [HD.out]; rfl)
   clear HD
   have lq : b < x0.heap.size := cA (a8 0 _ rfl)
   rw [show o + 0 * 5 = o by omega] at a8
   generalize K 0 = k0 at *
   obtain ⟨kl, kh, sX, sR, sU, sW, sQ, sT, sV, sP, sS⟩ := k0
   replace a8 : x0.rangeAt b o [.bool kl, .bool kh, .slice sX sR sU, .slice sW sQ sT, .slice sV sP sS] := a8
   have aF : Keeps (fun w' => Box w' w.heap.size 32 #[.bool true, .bool vh, .slice aw ap av, .slice aA aS az, .slice (some ⟨b, o, none⟩) n cz] ∧ w'.rangeAt b o [.bool kl, .bool kh, .slice sX sR sU, .slice sW sQ sT, .slice sV sP sS] ∧ Rd w' ⟨kl, kh, sX, sR, sU, sW, sQ, sT, sV, sP, sS⟩ k ∧ b < w'.heap.size ∧ Below w.heap.size w w') := fun _ _ h b => ⟨h.1.after b, (fun j v hv => (World.cell?_of_block (a := ⟨_, o + j, none⟩) (b.block _ h.2.2.2.1)).trans (h.2.1 j v hv)), h.2.2.1.after b, Nat.lt_of_lt_of_le h.2.2.2.1 b.size, h.2.2.2.2.trans (b.mono h.2.2.2.2.size)⟩
   refine aX (w := x0) [] (fun w' => Box w' w.heap.size 32 #[.bool true, .bool vh, .slice aw ap av, .slice aA aS az, .slice (some ⟨b, o, none⟩) n cz] ∧ w'.rangeAt b o [.bool kl, .bool kh, .slice sX sR sU, .slice sW sQ sT, .slice sV sP sS] ∧ Rd w' ⟨kl, kh, sX, sR, sU, sW, sQ, sT, sV, sP, sS⟩ k ∧ b < w'.heap.size ∧ Below w.heap.size w w') rfl (aF _ _ ⟨X.out, a8, H0.after B, lq, B⟩ (Below.refl _ _).drew) ?_
   refine ag 0 aF rfl (by kernel_rfl) (by kernel_rfl) (by kernel_rfl) (by kernel_rfl) rfl (fun _ _ _ _ h => h) (.pointer (some ⟨w.heap.size, 0, none⟩)) (fun w' h => by simp [go_sem]) ?_
   simp only [Act.put, I2, I3, I4]
   refine ag 1 aF rfl (by kernel_rfl) (by kernel_rfl) (by kernel_rfl) (by kernel_rfl) rfl (fun _ _ _ _ h => h) (.bool true) (fun w' h => by simp [go_sem, h.1.cell 0 rfl]) ?_
   simp only [Act.put, I2, I3, I4]
   refine ag 2 aF rfl (by kernel_rfl) (by kernel_rfl) (by kernel_rfl) (by kernel_rfl) rfl (fun _ _ _ _ h => h) (.bool true) (fun w' h => by simp [go_sem]) ?_
   simp only [Act.put, I2, I3, I4]
   refine ag 3 aF rfl (by kernel_rfl) (by kernel_rfl) (by kernel_rfl) (by kernel_rfl) rfl (fun _ _ _ _ h => h) (.pointer (some ⟨w.heap.size, 4, none⟩)) (fun w' h => by simp [go_sem]) ?_
   simp only [Act.put, I2, I3, I4]
   refine ag 4 aF rfl (by kernel_rfl) (by kernel_rfl) (by kernel_rfl) (by kernel_rfl) rfl (fun _ _ _ _ h => h) (.slice (some ⟨b, o, none⟩) n cz) (fun w' h => by simp [go_sem, h.1.cell 4 rfl]) ?_
   simp only [Act.put, I2, I3, I4]
   refine ag 5 aF rfl (by kernel_rfl) (by kernel_rfl) (by kernel_rfl) (by kernel_rfl) rfl (fun _ _ _ _ h => h) (.int .i64 n) (fun w' h => by simp [go_sem]) ?_
   simp only [Act.put, I2, I3, I4]
   refine ag 6 aF rfl (by kernel_rfl) (by kernel_rfl) (by kernel_rfl) (by kernel_rfl) rfl (fun _ _ _ _ h => h) (.bool true) (fun w' h => by simp [go_sem, hz, BU]) ?_
   simp only [Act.put, I2, I3, I4]
   refine ag 7 aF rfl (by kernel_rfl) (by kernel_rfl) (by kernel_rfl) (by kernel_rfl) rfl (fun _ _ _ _ h => h) (.bool true) (fun w' h => by simp [go_sem]) ?_
   simp only [Act.put, I2, I3, I4]
   refine ag 8 aF rfl (by kernel_rfl) (by kernel_rfl) (by kernel_rfl) (by kernel_rfl) rfl (fun _ _ _ _ h => h) (.bool true) (fun w' h => by simp [go_sem]) ?_
   simp only [Act.put, I2, I3, I4]
   refine ag 9 aF rfl (by kernel_rfl) (by kernel_rfl) (by kernel_rfl) (by kernel_rfl) rfl (fun _ _ _ _ h => h) (.pointer (some ⟨w.heap.size, 4, none⟩)) (fun w' h => by simp [go_sem]) ?_
   simp only [Act.put, I2, I3, I4]
   refine ag 10 aF rfl (by kernel_rfl) (by kernel_rfl) (by kernel_rfl) (by kernel_rfl) rfl (fun _ _ _ _ h => h) (.slice (some ⟨b, o, none⟩) n cz) (fun w' h => by simp [go_sem, h.1.cell 4 rfl]) ?_
   simp only [Act.put, I2, I3, I4]
   refine ag 11 aF rfl (by kernel_rfl) (by kernel_rfl) (by kernel_rfl) (by kernel_rfl) rfl (fun _ _ _ _ h => h) (.pointer (some ⟨b, o, none⟩)) (fun w' h => by simp [go_sem, hz, BU]) ?_
   simp only [Act.put, I2, I3, I4]
   refine ag 12 aF rfl (by kernel_rfl) (by kernel_rfl) (by kernel_rfl) (by kernel_rfl) rfl (fun _ _ _ _ h => h) (.agg #[.bool kl, .bool kh, .slice sX sR sU, .slice sW sQ sT, .slice sV sP sS]) (fun w' h => fY rfl h.2.1 rfl Tryz.underlying32 rfl (by kernel_rfl)) ?_
   simp only [Act.put, I2, I3, I4]
   refine aN 13 rfl (by kernel_rfl) (by kernel_rfl) rfl ?_
   intro z1 b1 s1
   refine aT 71 #[.string ⟨#[42]⟩] (by simp [go_sem]) _ (cG (fun b => True) ⟨#[42]⟩ (by decide) z1 (fun _ _ => trivial)) ?_
   rintro e z2 ⟨vA, rfl, rA, c2⟩
   refine ⟨_, rfl, aF _ _ s1 c2, ?_⟩
   simp only [Act.put, I2, I3, I4]
   refine aN 14 rfl (by kernel_rfl) (by kernel_rfl) rfl ?_
   intro z3 b3 s3
   replace rA := rA.after b3
   refine aT 106 #[.agg #[.bool kl, .bool kh, .slice sX sR sU, .slice sW sQ sT, .slice sV sP sS], vA.val] (by simp [go_sem]) _ (vO k (at1 starL) ⟨kl, kh, sX, sR, sU, sW, sQ, sT, sV, sP, sS⟩ vA z3 s3.2.2.1 rA) ?_
   rintro e z4 ⟨rfl, c4⟩
   refine ⟨_, rfl, aF _ _ s3 c4, ?_⟩
   simp only [Act.put, I2, I3, I4]
   generalize k.same (at1 starL) = r9 at *
   refine ag 15 aF rfl (by kernel_rfl) (by kernel_rfl) (by kernel_rfl) (by kernel_rfl) rfl (fun _ _ _ _ h => h) (.bool r9) (fun w' h => by simp [go_sem]) ?_
   simp only [Act.put, I2, I3, I4]
   refine ag 16 aF rfl (by kernel_rfl) (by kernel_rfl) (by kernel_rfl) (by kernel_rfl) rfl (fun _ _ _ _ h => h) (.bool r9) (fun w' h => by simp [go_sem]) ?_
   simp only [Act.put, I2, I3, I4]
   refine eK (by kernel_rfl) ?_
   intro z5 b5 s5
   go_wp2_with fail
   go_ret
   exact ⟨by rw [HF.out] <;> rfl, s5.2.2.2.2⟩
def AnsCc (ks : List Sx) (K : Nat → SV)  (f : Sx → Bool) (w : World) : Prop := ∀ i (h : i < ks.length) w', Below w.heap.size w w' → Calls Tryz.prog 76 #[(K i).val] w' fun e w'' => e = .returned (.bool (f ks[i])) ∧ Below w'.heap.size w' w''
theorem ug (a : Option Addr) (n c : Nat) (K : Nat → SV) (ks : List Sx)  (f : Sx → Bool) (w : World) (hr : RowAt w a n c K) (i9 : n = ks.length) (he : AnsCc ks K  f w) :
  Calls Tryz.prog 107 #[.slice a n c, .func (.func 76) #[] #[]] w fun e w' => (∃ r : Int, e = .returned (.int .i64 r) ∧ decide (0 ≤ r) = ks.any f) ∧ Below w.heap.size w w' := by
 have HR := I5 hr
 have HL := I5 i9
 have HE := I5 he
 have hn : (n : Int) ≤ 9223372036854775807 := by have h2 := hr.1; have h3 := hr.2.1; unfold maxLen at h3; omega
 clear hr i9 he
 go_enter Tryz.func107, Tryz.ntmps107
 go_wp2_with fail
 go_loopw [8] (fun i wr => ∃ k : Nat, k ≤ n ∧ i = .int .i64 k ∧ Hid ((ks.take k).any f = false) ∧ Below w.heap.size w wr) (fun i _ => n - (intOf i).toNat)
 case atStart => exact ⟨0, Nat.zero_le _, rfl, I5 rfl, Below.refl _ _⟩
 case round =>
  obtain ⟨k, hk, rfl, gy, hb⟩ := hrel
  by_cases aJ : k < n
  case neg =>
   have fS : ¬ (k : Int) < n := by omega
   go_wp2_with fail
   go_ret
   exact ⟨⟨-1, rfl, by have h := gy.out; rw [List.take_of_length_le (by have := HL.out; omega)] at h; rw [h]; rfl⟩, hb⟩
  case pos =>
   have fS : (k : Int) < n := by omega
   have fy : k < ks.length := by have := HL.out; omega
   obtain ⟨b, o, rfl, a8⟩ := (HR.out.after hb).range aJ
   have fM := I5 a8
   have HC := I5 (HE.out k fy wr hb)
   have zq : Hid ((ks.take (k + 1)).any f = f (ks[k]'fy)) := I5 (by rw [iS _ _ _ fy, gy.out]; rfl)
   have Dm : Hid (f (ks[k]'fy) = true → ks.any f = true) := I5 (fun h => List.any_eq_true.2 ⟨_, List.getElem_mem fy, h⟩)
   generalize f (ks[k]'fy) = gx at *
   have cL : (0 : Int) ≤ k := by omega
   clear a8
   go_wp2_with (refine aY rfl _ rfl b _ rfl _ fM.out ?_)
   refine HC.out.mono ?_
   rintro e w1 ⟨rfl, af⟩
   have aK := hb.trans (af.mono hb.size)
   clear af fM
   cases gx with
   | true =>
    go_wp2_with fail
    go_ret
    exact ⟨⟨k, rfl, by rw [Dm.out (by trivial)]; simp⟩, aK⟩
   | false =>
    go_wp2_with fail
    go_roundw
    case rel => exact ⟨k + 1, by omega, by go_num, zq, aK⟩
    case measure => simp [intOf] <;> omega
theorem uO (a : Option Addr) (n c : Nat) (K : Nat → SV) (ks : List Sx)  (f : Sx → Bool) (w : World) (hr : RowAt w a n c K) (i9 : n = ks.length) (he : AnsCc ks K  f w) :
  Calls Tryz.prog 75 #[.slice a n c, .func (.func 76) #[] #[]] w fun e w' => e = .returned (.bool (ks.any f)) ∧ Below w.heap.size w w' := by
 have HI := I5 (ug a n c K ks  f w hr i9 he)
 clear hr i9 he
 go_enter Tryz.func75, Tryz.ntmps75
 go_wp2_with fail
 refine HI.out.mono ?_
 rintro e w1 ⟨⟨r, rfl, hr⟩, hb⟩
 have HR := I5 hr
 clear hr
 go_wp2_with fail
 go_ret
 exact ⟨by rw [← HR.out]; rfl, hb⟩
theorem xf (v : SV) (r : Bool) (w : World) (H : ∀ w', Below w.heap.size w w' → Calls Tryz.prog 40 #[v.val] w' fun e w'' => e = .returned (.bool r) ∧ Below w'.heap.size w' w'') :
  Calls Tryz.prog 76 #[v.val] w fun e w' => e = .returned (.bool (!r)) ∧ Below w.heap.size w w' := by
 obtain ⟨vl, vh, aw, ap, av, aA, aS, az, cM, dO, cz⟩ := v
 let x0 := (w.alloc (.cells #[.bool vl, .bool vh, .slice aw ap av, .slice aA aS az, .slice cM dO cz] 32))
 have hb : Below w.heap.size w x0 := (Below.refl _ _).alloc (Nat.le_refl _) _
 have HX : Hid (Box x0 w.heap.size 32 #[.bool vl, .bool vh, .slice aw ap av, .slice aA aS az, .slice cM dO cz]) := I5 (Box.new _ _ _)
 have HC := I5 (H _ hb)
 clear H
 unfold SV.val
 show Calls _ _ #[.agg #[.bool vl, .bool vh, .slice aw ap av, .slice aA aS az, .slice cM dO cz]] _ _
 go_enter Tryz.func76, Tryz.ntmps76
 go_upto_region 1 with fail
 change Code.wp _ _ _ _ x0
 clear_value x0
 go_wp2_with (refine ab rfl 32 _ rfl HX.out (by rfl) Tryz.underlying32 rfl (by kernel_rfl) ?_)
 refine HC.out.mono ?_
 rintro e w1 ⟨rfl, af⟩
 have aK := hb.trans (af.mono hb.size)
 go_wp2_with fail
 go_ret
 exact ⟨rfl, aK⟩
theorem xd (s : Sx) : ∀ (v : SV) (w : World), Rd w v s → Calls Tryz.prog 40 #[v.val] w fun e w' => e = .returned (.bool s.conc) ∧ Below w.heap.size w w' := by
 induction s using Sx.ind with
 | h l hh hi da ks ih =>
 intro v w hr
 have IH := I5 ih
 have gU := I5 hr
 clear ih
 obtain ⟨eQ, fK, an, aO, hn, ie, ea, K, ah, hk⟩ := hr.parts
 obtain ⟨vl, vh, aw, ap, av, aA, aS, az, cM, dO, cz⟩ := v
 dsimp only at hn ie ea ah hk eQ fK an aO
 obtain rfl : vl = l := eQ
 obtain rfl : vh = hh := fK
 replace hn : dO = ks.length := hn
 subst hn
 have HR := I5 ah
 have HK := I5 hk
 clear hr an aO ah hk
 unfold maxLen at ea
 have HD := I5 (qu vl vh hi da ks)
 have CS := I5 (fun w' (h : Below w.heap.size w w') => gH (.mk vl vh hi da ks) ⟨vl, vh, aw, ap, av, aA, aS, az, cM, ks.length, cz⟩ w' (gU.out.after h))
 generalize (Sx.mk vl vh hi da ks).conc = R at *
 generalize starS (.mk vl vh hi da ks) = q9 at *
 unfold SV.val
 let x0 := (w.alloc (.cells #[.bool vl, .bool vh, .slice aw ap av, .slice aA aS az, .slice cM ks.length cz] 32))
 have B : Below w.heap.size w x0 := (Below.refl _ _).alloc (Nat.le_refl _) _
 have X : Hid (Box x0 w.heap.size 32 #[.bool vl, .bool vh, .slice aw ap av, .slice aA aS az, .slice cM ks.length cz]) := I5 (Box.new _ _ _)
 show Calls _ _ #[.agg #[.bool vl, .bool vh, .slice aw ap av, .slice aA aS az, .slice cM ks.length cz]] _ _
 go_enter Tryz.func40, Tryz.ntmps40
 go_upto_region 1 with fail
 change Code.wp _ _ _ _ x0
 clear_value x0
 have x0c := X.out.cell 0 rfl
 cases vl with
 | false =>
  have HF : Hid (R = !vh) := I5 (by rw [HD.out]; rfl)
  have x1c := X.out.cell 1 rfl
  clear CS
  go_wp2_with fail
  go_ret
  exact ⟨by rw [HF.out] <;> rfl, B⟩
 | true =>
  have pf : Hid (R = (!q9 && Sx.concL ks)) := I5 (by rw [HD.out]; rfl)
  clear HD
  go_wp2_with (refine ab rfl 32 _ rfl X.out (by rfl) Tryz.underlying32 rfl (by kernel_rfl) ?_)
  refine (CS.out x0 B).mono ?_
  rintro e x1 ⟨rfl, bx1⟩
  replace X := I5 (X.out.after bx1)
  replace B := B.trans (bx1.mono B.size)
  clear bx1
  clear CS x0c
  cases q9 with
  | true =>
   have HF : Hid (R = false) := I5 (by rw [pf.out]; rfl)
   go_wp2_with fail
   go_ret
   exact ⟨by rw [HF.out]; rfl, B⟩
  | false =>
   have HF : Hid (R = !(ks.any (fun k => !k.conc))) := I5 (by rw [pf.out, uN]; rfl)
   have HA : Hid (AnsCc ks K (fun k => !k.conc) x1) := I5 (fun i hi w' hw => xf (K i) ks[i].conc w' (fun w2 oO => IH.out _ (List.getElem_mem hi) (K i) w2 (((HK.out i hi).after (B.trans (hw.mono B.size))).after oO)))
   have x4c := X.out.cell 4 rfl
   go_wp2_with fail
   refine (uO cM ks.length cz K ks (fun k => !k.conc) x1 (HR.out.after B) rfl HA.out).mono ?_
   rintro e w5 ⟨rfl, hb5⟩
   have B5 := B.trans (hb5.mono B.size)
   go_wp2_with fail
   go_ret
   exact ⟨by rw [HF.out]; rfl, B5⟩
theorem xQ (s : Sx) (v : SV) (w : World) (hr : Rd w v s) (hw : s.wide 0 = false) (ht : Tab w) : Calls Tryz.prog 21 #[v.val] w fun e w' => e = .returned (.bool s.req) ∧ Below w.heap.size w w' := by
 have gU := I5 hr
 have HT := I5 ht
 have HW := I5 hw
 clear hr ht hw
 obtain ⟨vl, vh, aw, ap, av, aA, aS, az, cM, dO, cz⟩ := v
 have C1 := I5 (fun w' (h : Below w.heap.size w w') => lw s ⟨vl, vh, aw, ap, av, aA, aS, az, cM, dO, cz⟩ w' (gU.out.after h) 0 HW.out (HT.out.after h))
 have C2 := I5 (fun w' (h : Below w.heap.size w w') => xd s ⟨vl, vh, aw, ap, av, aA, aS, az, cM, dO, cz⟩ w' (gU.out.after h))
 have HD := I5 (show s.req = (s.may && s.conc) from rfl)
 generalize s.req = R at *
 generalize s.may = r1 at *
 generalize s.conc = r2 at *
 unfold SV.val
 let x0 := (w.alloc (.cells #[.bool vl, .bool vh, .slice aw ap av, .slice aA aS az, .slice cM dO cz] 32))
 have B : Below w.heap.size w x0 := (Below.refl _ _).alloc (Nat.le_refl _) _
 have X : Hid (Box x0 w.heap.size 32 #[.bool vl, .bool vh, .slice aw ap av, .slice aA aS az, .slice cM dO cz]) := I5 (Box.new _ _ _)
 show Calls _ _ #[.agg #[.bool vl, .bool vh, .slice aw ap av, .slice aA aS az, .slice cM dO cz]] _ _
 go_enter Tryz.func21, Tryz.ntmps21
 go_upto_region 1 with fail
 change Code.wp _ _ _ _ x0
 clear_value x0
 go_wp2_with (refine ab rfl 32 _ rfl X.out (by rfl) Tryz.underlying32 rfl (by kernel_rfl) ?_)
 refine (C1.out x0 B).mono ?_
 rintro e x1 ⟨rfl, bx1⟩
 replace X := I5 (X.out.after bx1)
 replace B := B.trans (bx1.mono B.size)
 clear bx1
 clear C1
 cases r1 with
 | false =>
  have HF : Hid (R = false) := I5 (by rw [HD.out]; rfl)
  go_wp2_with fail
  go_ret
  exact ⟨by rw [HF.out]; rfl, B⟩
 | true =>
  have HF : Hid (R = r2) := I5 (by rw [HD.out]; rfl)
  go_wp2_with (refine ab rfl 32 _ rfl X.out (by rfl) Tryz.underlying32 rfl (by kernel_rfl) ?_)
  refine (C2.out x1 B).mono ?_
  rintro e x2 ⟨rfl, bx2⟩
  replace X := I5 (X.out.after bx2)
  replace B := B.trans (bx2.mono B.size)
  clear bx2
  go_wp2_with fail
  go_ret
  exact ⟨by rw [HF.out] <;> rfl, B⟩
end Go.Proofs.YtmmkaclmgnpplaaGreatDoor

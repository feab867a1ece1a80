import Derived.Test.YtmmkaclmgnpplaaGreatDoorMz33
import Derived.Test.YtmmkaclmgnpplaaGreatDoorMz45
set_option maxRecDepth 100000
set_option maxHeartbeats 64000000
set_option linter.unusedSimpArgs false
set_option linter.unusedVariables false
namespace Go.Proofs.YtmmkaclmgnpplaaGreatDoor
open Go.RowKit
theorem Lg {P : Program} {ops : Array Oper} {C : World → Prop} {Q : Act → Prop} {a : Act} {o : Oper} {rest : List Oper} (v : Value) (h : wpQuiet P ops C Q rest (a.put o.dst v)) (hgd : Region.wanted o (yielded ops a.tmps) = true := by rfl) (hr : ∀ w, C w → (execOp a.eval o).run P w = .ok (.value v) w := by (intro w' hw; simp [go_sem])) : wpQuiet P ops C Q (o :: rest) a := aa hgd v hr h
theorem JU : ∀ l m n : List UInt8, Op.bytesLess l m = true → Op.bytesLess m n = true → Op.bytesLess l n = true
 | [], [], _, h, _ => by simp [Op.bytesLess] at h
 | _, _ :: _, [], _, h => by simp [Op.bytesLess] at h
 | [], _ :: _, _ :: _, _, _ => by simp [Op.bytesLess]
 | _ :: _, [], _, h, _ => by simp [Op.bytesLess] at h
 | a :: l, b :: m, c :: n, h, h' => by
  simp only [Op.bytesLess, Bool.or_eq_true, decide_eq_true_eq, Bool.and_eq_true, beq_iff_eq] at h h' ⊢
  rcases h with h | ⟨rfl, h⟩ <;> rcases h' with h' | ⟨rfl, h'⟩
  ·exact .inl (UInt8.lt_trans h h')
  ·exact .inl h
  ·exact .inl h'
  ·exact .inr ⟨rfl, JU l m n h h'⟩
def leK (x y : Int × List UInt8) : Prop := x.1 < y.1 ∨ (x.1 = y.1 ∧ Op.bytesLess y.2 x.2 = false)
theorem JM (x y : Int × List UInt8) : cmpK x y ≤ 0 ↔ leK x y := by
 unfold cmpK leK bcmp
 by_cases h1 : x.1 < y.1
 ·simp [h1]
 ·by_cases h2 : y.1 < x.1
  ·simp [h1, h2]; omega
  ·have e : x.1 = y.1 := by omega
   rw [if_neg h1, if_neg h2]
   cases h3 : Op.bytesLess x.2 y.2
   ·cases h4 : Op.bytesLess y.2 x.2 <;> simp [e]
   ·simp [e, xu _ _ h3]
theorem Kg (x y : Int × List UInt8) : cmpK y x = -cmpK x y := by
 unfold cmpK bcmp
 by_cases h1 : x.1 < y.1
 ·rw [if_neg (by omega), if_pos h1, if_pos h1]; rfl
 ·by_cases h2 : y.1 < x.1
  ·rw [if_pos h2, if_neg h1, if_pos h2]
  ·rw [if_neg h2, if_neg h1, if_neg h1, if_neg h2]
   cases h3 : Op.bytesLess x.2 y.2
   ·cases h4 : Op.bytesLess y.2 x.2 <;> simp
   ·simp [xu _ _ h3]
theorem J9 (x y z : Int × List UInt8) (h : leK x y) (h' : leK y z) : leK x z := by
 unfold leK at *
 rcases h with h | ⟨e, h⟩ <;> rcases h' with h' | ⟨e', h'⟩
 ·exact .inl (by omega)
 ·exact .inl (by omega)
 ·exact .inl (by omega)
 ·refine .inr ⟨by omega, ?_⟩
  cases hc : Op.bytesLess z.2 x.2
  ·rfl
  ·exfalso
   cases hb : Op.bytesLess y.2 z.2
   ·rw [qC _ _ hb h', hc] at h; cases h
   ·rw [JU _ _ _ hb hc] at h; cases h
theorem JZ (x y z : Int × List UInt8) (h : cmpK x y ≤ 0) (h' : cmpK y z ≤ 0) : cmpK x z ≤ 0 :=
 (JM _ _).2 (J9 _ _ _ ((JM _ _).1 h) ((JM _ _).1 h'))
theorem JO (o : Nat) (l m : List UInt8) : cV o m l = - cV o l m := by
 unfold cV
 cases h1 : ordV o l <;> cases h2 : ordV o m <;> first | rfl | exact Kg _ _
theorem Jm (o : Nat) (l m n : List UInt8) (hm : isV o m = true) (h : cV o l m ≤ 0) (h' : cV o m n ≤ 0) (hl : isV o l = true) (hn : isV o n = true) : cV o l n ≤ 0 := by
 unfold isV at *
 obtain ⟨x, hx⟩ := Option.isSome_iff_exists.1 hl
 obtain ⟨y, hy⟩ := Option.isSome_iff_exists.1 hm
 obtain ⟨z, hz⟩ := Option.isSome_iff_exists.1 hn
 unfold cV at *
 rw [hx, hy] at h; rw [hy, hz] at h'; rw [hx, hz]
 exact JZ _ _ _ h h'
theorem tri (o : Nat) (b x y : List UInt8) (hb : isV o b = true) (hx : isV o x = true) (hy : isV o y = true) :
  (cV o b y ≤ 0 → cV o y x ≤ 0 → cV o b x ≤ 0) ∧ (0 ≤ cV o y x → 0 ≤ cV o b y → 0 ≤ cV o b x) ∧ (cV o b x ≤ 0 → 0 ≤ cV o y x → cV o b y ≤ 0) ∧
  (cV o y x ≤ 0 → 0 ≤ cV o b x → 0 ≤ cV o b y) ∧ (0 ≤ cV o b y → cV o b x ≤ 0 → cV o y x ≤ 0) ∧ (0 ≤ cV o b x → cV o b y ≤ 0 → 0 ≤ cV o y x) := by
 have a1 := Jm o b y x hy; have a2 := Jm o x y b hy; have a3 := Jm o b x y hx; have a4 := Jm o y x b hx
 have a5 := Jm o y b x hb; have a6 := Jm o x b y hb
 have n1 := JO o b y; have n2 := JO o y x; have n3 := JO o b x
 refine ⟨fun h h' => a1 h h' hb hx, fun h h' => ?_, fun h h' => a3 h (by omega) hb hy, fun h h' => ?_, fun h h' => a5 (by omega) h' hy hx, fun h h' => ?_⟩
 ·have := a2 (by omega) (by omega) hx hb; omega
 ·have := a4 h (by omega) hy hb; omega
 ·have := a6 (by omega) h' hx hy; omega
theorem JR (o : Nat) (x y : Bd) (b : List UInt8) (t : Int) (ht : t = 1 ∨ t = -1) (hx : endB o x = true) (hy : endB o y = true) (hb : isV o b = true) :
  wiB o (tiB o x y t) b t = (wiB o x b t && wiB o y b t) := by
 obtain ⟨xi, xo, xa⟩ := x
 obtain ⟨yi, yo, ya⟩ := y
 unfold tiB yB wiB endB at *
 cases xi <;> cases yi <;> simp only [Bool.not_true, Bool.not_false, Bool.false_and, Bool.true_and, Bool.true_or, Bool.false_or, Bool.false_eq_true, if_false, if_true, Bool.and_true] at hx hy ⊢
 have T := tri o b xa ya hb hx hy
 rcases fG o b xa with h1 | h1 | h1 <;> rcases fG o b ya with h2 | h2 | h2 <;> rcases fG o ya xa with h3 | h3 | h3 <;> rw [h1, h2, h3] at T <;> (first | (exfalso; omega) | (rcases ht with rfl | rfl <;> cases xo <;> cases yo <;> simp [h1, h2, h3]))
theorem JJ (o : Nat) (x y : Bd) (t : Int) (hx : endB o x = true) (hy : endB o y = true) : endB o (tiB o x y t) = true := by
 unfold tiB; split <;> assumption
theorem Kf (r : Rg) (b : List UInt8) (h : emptyB r = true) : inB r b = false := by
 obtain ⟨o, ⟨li, lo, la⟩, ⟨hi, ho, ha⟩⟩ := r
 unfold emptyB at h
 simp only [Bool.and_eq_true, Bool.or_eq_true, decide_eq_true_eq] at h
 obtain ⟨⟨⟨hm, rfl⟩, rfl⟩, h⟩ := h
 unfold mayB endB at hm
 simp only [if_true, Bool.and_eq_true] at hm
 unfold inB wiB
 cases hb : isV o b
 ·simp
 ·have T := tri o b la ha hb hm.1.2 hm.2
  have n := JO o la ha
  rcases fG o b la with h1 | h1 | h1 <;> rcases fG o b ha with h2 | h2 | h2 <;> rw [h1, h2] at T <;> simp [h1, h2] <;> (first | (exfalso; omega) | (intros; rcases h with h | ⟨h, h'⟩ <;> (first | (exfalso; omega) | (rcases h' with h' | h' <;> simp_all))))
theorem Ke (a b : Rg) (h : okB a b = true) : mayB (meetR a b) = true := by
 unfold meetR; rw [if_pos h]
 unfold okB at h
 simp only [Bool.and_eq_true, decide_eq_true_eq] at h
 obtain ⟨⟨h1, h2⟩, h3⟩ := h
 unfold mayB at *
 simp only [Bool.and_eq_true] at *
 rw [← h3] at h2
 exact ⟨⟨h1.1.1, JJ _ _ _ _ h1.1.2 h2.1.2⟩, JJ _ _ _ _ h1.2 h2.2⟩
theorem J5 {a b : Rg} (h : okB a b = true) : mayB a = true ∧ mayB b = true ∧ a.o = b.o ∧ endB a.o a.lo = true ∧ endB a.o a.hi = true ∧ endB a.o b.lo = true ∧ endB a.o b.hi = true := by
 unfold okB at h
 simp only [Bool.and_eq_true, decide_eq_true_eq] at h
 obtain ⟨⟨h1, h2⟩, h3⟩ := h
 refine ⟨h1, h2, h3, ?_⟩
 unfold mayB at *
 simp only [Bool.and_eq_true] at *
 rw [← h3] at h2
 exact ⟨h1.1.2, h1.2, h2.1.2, h2.2⟩
theorem J3 (a b : Rg) (l : List UInt8) (h : okB a b = true) : inB (meetR a b) l = (inB a l && inB b l) := by
 have hm := Ke a b h
 obtain ⟨h1, h2, h3, e1, e2, e3, e4⟩ := J5 h
 unfold inB
 rw [hm, h1, h2, ← h3]
 unfold meetR
 rw [if_pos h]
 cases hb : isV a.o l
 ·simp
 ·simp only [Bool.true_and, JR _ _ _ _ _ (.inl rfl) e1 e3 hb, JR _ _ _ _ _ (.inr rfl) e2 e4 hb]
  cases wiB a.o a.lo l 1 <;> cases wiB a.o b.lo l 1 <;> cases wiB a.o a.hi l (-1) <;> cases wiB a.o b.hi l (-1) <;> rfl
theorem uB {t : Tg} (h : t.great 0 = false) (hn : t.count < 4611686018427387904) : t.wide 0 = false ∧ t.count ≤ 1000 := by
 have hw : t.wide 0 = false := by
  cases hw : t.wide 0 with
  | false => rfl
  | true => rw [ms hw] at h; cases h
 rw [lf hw] at h
 have h2 := of_decide_eq_false h
 have : wrap64 (t.count : Int) = t.count := by unfold wrap64; omega
 rw [this] at h2
 exact ⟨hw, by omega⟩
theorem JV (r : Rg) : sameR r r = true := by
 unfold sameR sameBd
 simp
theorem JK (t : Tg) : ∀ (v u : TV) (w : World), RdT (fun _ => True) w v t → RdT (fun _ => True) w u t → Calls Tryz.prog 14 #[v.val, u.val] w fun e w' => e = .returned (.bool true) ∧ Below w.heap.size w w' := by
 induction t using Tg.ind with
 | h kd da ks r ih =>
 intro v u w hr oY
 have IH := I5 ih
 clear ih
 obtain ⟨⟨cH, ho, cK, dv, dx, dw, fJ, fF⟩, an, KE, cf, hn, K, ah, hk⟩ := hr.parts
 obtain ⟨ay, aw, ap, av, aA, aS, az, vo, am, ak, aE, aB, aD, ar, aq, aI, aC, aH⟩ := v
 obtain ⟨ro, ⟨li, lo, ll⟩, ⟨hi, mN, hl⟩⟩ := r
 dsimp only [Tg.kd, Tg.r, Tg.da, Tg.ks] at cH ho cK dv dx dw fJ fF an KE cf hn ah hk
 subst cH ho cK dv dx dw hn
 have fL := I5 an
 have ke := I5 KE
 have kf := I5 cf
 have HR := I5 ah
 have HK := I5 hk
 have ep := I5 an.1
 have kF := I5 KE.1
 have kG := I5 cf.1
 have cF := Nat.le_trans an.2.1 an.2.2.1
 have cE := Nat.le_trans ah.1 ah.2.1
 unfold maxLen at cF cE
 clear an KE cf ah hk hr
 obtain ⟨⟨Ky, jo, Kx, Kw, KC, Kz, -, -⟩, ks1, ksl, ksh, jn, L, krow, kk⟩ := oY.parts
 obtain ⟨gZ, gB, gz, gA, gT, gR, fZ, uo, eu, et, eY, eW, eX, fa, eZ, fw, fu, fv⟩ := u
 dsimp only [Tg.kd, Tg.r, Tg.da, Tg.ks] at Ky jo Kx Kw KC Kz ks1 ksl ksh jn krow kk
 replace Ky := Ky.symm
 replace jo := jo.symm
 replace Kx := Kx.symm
 replace Kw := Kw.symm
 replace KC := KC.symm
 replace Kz := Kz.symm
 subst Ky jo Kx Kw KC Kz jn
 have KS1 := I5 ks1
 have KSL := I5 ksl
 have KSH := I5 ksh
 have KR := I5 krow
 have KK := I5 kk
 clear ks1 ksl ksh krow kk oY
 have CS := I5 (fun w' (h : Below w.heap.size w w') => tK vo am ak aE aB aD ll ar aq aI aC aH hl vo am ak eY eW eX ll ar aq fw fu fv hl w' (ke.out.after h) (kf.out.after h) (KSL.out.after h) (KSH.out.after h))
 simp only [JV] at CS
 let x0 := ((w.alloc (.cells #[.int .u8 ay, .slice aw ap av, .slice aA ks.length az, .int .u8 vo, .bool am, .bool ak, .slice aE aB aD, .bool ar, .bool aq, .slice aI aC aH] 29)).alloc (.cells #[.int .u8 ay, .slice gB gz gA, .slice gT ks.length fZ, .int .u8 vo, .bool am, .bool ak, .slice eY eW eX, .bool ar, .bool aq, .slice fw fu fv] 29))
 have B : Below w.heap.size w x0 := ((Below.refl _ _).alloc (Nat.le_refl _) _).alloc (by simp [x0, x0]) _
 have X : Hid (Box x0 w.heap.size 29 #[.int .u8 ay, .slice aw ap av, .slice aA ks.length az, .int .u8 vo, .bool am, .bool ak, .slice aE aB aD, .bool ar, .bool aq, .slice aI aC aH]) := I5 ((Box.new _ _ _).alloc _)
 have Y : Hid (Box x0 (w.heap.size + 1) 29 #[.int .u8 ay, .slice gB gz gA, .slice gT ks.length fZ, .int .u8 vo, .bool am, .bool ak, .slice eY eW eX, .bool ar, .bool aq, .slice fw fu fv]) := I5 (by
  have := Box.new (w.alloc (.cells #[.int .u8 ay, .slice aw ap av, .slice aA ks.length az, .int .u8 vo, .bool am, .bool ak, .slice aE aB aD, .bool ar, .bool aq, .slice aI aC aH] 29)) 29 #[.int .u8 ay, .slice gB gz gA, .slice gT ks.length fZ, .int .u8 vo, .bool am, .bool ak, .slice eY eW eX, .bool ar, .bool aq, .slice fw fu fv]
  simpa [x0] using this)
 show Calls _ _ #[.agg #[.int .u8 ay, .slice aw ap av, .slice aA ks.length az, .int .u8 vo, .bool am, .bool ak, .slice aE aB aD, .bool ar, .bool aq, .slice aI aC aH], .agg #[.int .u8 ay, .slice gB gz gA, .slice gT ks.length fZ, .int .u8 vo, .bool am, .bool ak, .slice eY eW eX, .bool ar, .bool aq, .slice fw fu fv]] _ _
 go_enter Tryz.func14, Tryz.ntmps14
 go_upto_region 1 with fail
 change Code.wp _ _ _ _ x0
 clear_value x0
 go_step
 refine bC 31 x0.heap.size x0 (Below.refl _ _) ?_
 simp only [List.take_succ_cons, List.take_zero, List.drop_succ_cons, List.drop_zero]
 refine Lg (.pointer (some ⟨w.heap.size, 0, none⟩)) ?_
 simp only [Act.put, I2, I3, I4]
 refine aa rfl (.int .u8 ay) (fun w' hw => by have := (X.out.after hw).cell 0 rfl; simp [go_sem, this]) ?_
 simp only [Act.put, I2, I3, I4]
 refine Lg (.pointer (some ⟨w.heap.size + 1, 0, none⟩)) ?_
 simp only [Act.put, I2, I3, I4]
 refine aa rfl (.int .u8 ay) (fun w' hw => by have := (Y.out.after hw).cell 0 rfl; simp [go_sem, this]) ?_
 simp only [Act.put, I2, I3, I4]
 refine Lg (.bool false) ?_
 simp only [Act.put, I2, I3, I4]
 refine Lg (.bool false) ?_
 simp only [Act.put, I2, I3, I4]
 refine Lg (.pointer (some ⟨w.heap.size, 1, none⟩)) ?_
 simp only [Act.put, I2, I3, I4]
 refine aa rfl (.slice aw ap av) (fun w' hw => by have := (X.out.after hw).cell 1 rfl; simp [go_sem, this]) ?_
 simp only [Act.put, I2, I3, I4]
 refine aa rfl (.string ⟨da.toArray⟩) (fun w' hw => by have := bv (fL.out.after (B.trans (hw.mono B.size))); simp [go_sem, this]) ?_
 simp only [Act.put, I2, I3, I4]
 refine Lg (.pointer (some ⟨w.heap.size + 1, 1, none⟩)) ?_
 simp only [Act.put, I2, I3, I4]
 refine aa rfl (.slice gB gz gA) (fun w' hw => by have := (Y.out.after hw).cell 1 rfl; simp [go_sem, this]) ?_
 simp only [Act.put, I2, I3, I4]
 refine aa rfl (.string ⟨da.toArray⟩) (fun w' hw => by have := bv (KS1.out.after (B.trans (hw.mono B.size))); simp [go_sem, this]) ?_
 simp only [Act.put, I2, I3, I4]
 refine Lg (.bool false) ?_
 simp only [Act.put, I2, I3, I4]
 refine Lg (.bool false) ?_
 simp only [Act.put, I2, I3, I4]
 refine Lg (.bool false) ?_
 simp only [Act.put, I2, I3, I4]
 refine Lg (.pointer (some ⟨w.heap.size, 3, none⟩)) ?_
 simp only [Act.put, I2, I3, I4]
 refine bI rfl 27 _ rfl _ 3 rfl [.int .u8 vo, .bool am, .bool ak, .slice aE aB aD, .bool ar, .bool aq, .slice aI aC aH] _ (Box.midR X.out 3 [.int .u8 vo, .bool am, .bool ak, .slice aE aB aD, .bool ar, .bool aq, .slice aI aC aH] rfl) X.out.lt Tryz.underlying27 rfl (by kernel_rfl) ?_
 simp only [Act.put, I2, I3, I4]
 refine Lg (.pointer (some ⟨w.heap.size + 1, 3, none⟩)) ?_
 simp only [Act.put, I2, I3, I4]
 refine bI rfl 27 _ rfl _ 3 rfl [.int .u8 vo, .bool am, .bool ak, .slice eY eW eX, .bool ar, .bool aq, .slice fw fu fv] _ (Box.midR Y.out 3 [.int .u8 vo, .bool am, .bool ak, .slice eY eW eX, .bool ar, .bool aq, .slice fw fu fv] rfl) Y.out.lt Tryz.underlying27 rfl (by kernel_rfl) ?_
 simp only [Act.put, I2, I3, I4]
 refine be rfl 32 #[.agg #[.int .u8 vo, .bool am, .bool ak, .slice aE aB aD, .bool ar, .bool aq, .slice aI aC aH], .agg #[.int .u8 vo, .bool am, .bool ak, .slice eY eW eX, .bool ar, .bool aq, .slice fw fu fv]] (fun w' => by simp [go_sem]) (.bool true) (Nat.le_refl _) (fun w' hw => CS.out w' (B.trans (hw.mono B.size))) ?_
 simp only [Act.put, I2, I3, I4]
 refine Lg (.bool false) ?_
 simp only [Act.put, I2, I3, I4]
 refine Lg (.bool false) ?_
 simp only [Act.put, I2, I3, I4]
 refine Lg (.bool false) ?_
 simp only [Act.put, I2, I3, I4]
 refine Lg (.pointer (some ⟨w.heap.size, 2, none⟩)) ?_
 simp only [Act.put, I2, I3, I4]
 refine aa rfl (.slice aA ks.length az) (fun w' hw => by have := (X.out.after hw).cell 2 rfl; simp [go_sem, this]) ?_
 simp only [Act.put, I2, I3, I4]
 refine Lg (.int .i64 ks.length) ?_
 simp only [Act.put, I2, I3, I4]
 refine Lg (.pointer (some ⟨w.heap.size + 1, 2, none⟩)) ?_
 simp only [Act.put, I2, I3, I4]
 refine aa rfl (.slice gT ks.length fZ) (fun w' hw => by have := (Y.out.after hw).cell 2 rfl; simp [go_sem, this]) ?_
 simp only [Act.put, I2, I3, I4]
 refine Lg (.int .i64 ks.length) ?_
 simp only [Act.put, I2, I3, I4]
 refine Lg (.bool false) ?_
 simp only [Act.put, I2, I3, I4]
 refine Lg (.bool false) ?_
 simp only [Act.put, I2, I3, I4]
 intro y1 af
 replace X := I5 (X.out.after af)
 replace Y := I5 (Y.out.after af)
 replace B := B.trans (af.mono B.size)
 clear af
 clear CS fL ke kf KS1 KSL KSH ep kF kG
 have q2 := X.out.cell 2 rfl
 go_wp2_with fail
 go_loopw [40] (fun i wr => ∃ k : Nat, k ≤ ks.length ∧ i = .int .i64 k ∧ Below w.heap.size w wr ∧ Box wr w.heap.size 29 #[.int .u8 ay, .slice aw ap av, .slice aA ks.length az, .int .u8 vo, .bool am, .bool ak, .slice aE aB aD, .bool ar, .bool aq, .slice aI aC aH] ∧ Box wr (w.heap.size + 1) 29 #[.int .u8 ay, .slice gB gz gA, .slice gT ks.length fZ, .int .u8 vo, .bool am, .bool ak, .slice eY eW eX, .bool ar, .bool aq, .slice fw fu fv]) (fun i _ => ks.length - (intOf i).toNat)
 case atStart => exact ⟨0, Nat.zero_le _, rfl, B, X.out, Y.out⟩
 case round =>
  clear q2 X Y B
  obtain ⟨k, fy, rfl, B, hX, hY⟩ := hrel
  have X := I5 hX
  have Y := I5 hY
  clear hX hY
  by_cases aJ : k < ks.length
  case neg =>
   have fS : ¬ (k : Int) < ks.length := by omega
   go_wp2_with fail
   go_ret
   exact ⟨rfl, B⟩
  case pos =>
   have fS : (k : Int) < ks.length := by omega
   have cL : (0 : Int) ≤ k := by omega
   obtain ⟨b, o, rfl, a8⟩ := (HR.out.after B).range aJ
   have lq : b < wr.heap.size := cA (a8 0 _ rfl)
   obtain ⟨b2, o2, rfl, ij⟩ := (KR.out.after B).range aJ
   have CT : b2 < wr.heap.size := cA (ij 0 _ rfl)
   have CI := I5 (fun w2 (h : Below wr.heap.size wr w2) => IH.out _ (List.getElem_mem aJ) (K k) (L k) w2 (((HK.out k aJ).after B).after h) (((KK.out k aJ).after B).after h))
   go_upto_region 6 with fail
   refine aP wr.heap.size wr rfl (by kernel_rfl) (Below.refl _ _) ?_
   refine Lg (.pointer (some ⟨w.heap.size, 2, none⟩)) ?_
   simp only [Act.put, I2, I3, I4]
   refine aa rfl (.slice (some ⟨b, o, none⟩) ks.length az) (fun w' hw => by have := (X.out.after hw).cell 2 rfl; simp [go_sem, this]) ?_
   simp only [Act.put, I2, I3, I4]
   refine Lg (.int .i64 k) ?_
   simp only [Act.put, I2, I3, I4]
   refine aa rfl (.pointer (some ⟨b, o + k * 10, none⟩)) (fun w' hw => by simp [go_sem, cL, fS, aJ]) ?_
   simp only [Act.put, I2, I3, I4]
   refine bI rfl 29 _ rfl b (o + k * 10) rfl _ _ a8 lq Tryz.underlying29 rfl (by kernel_rfl) ?_
   simp only [Act.put, I2, I3, I4]
   refine Lg (.pointer (some ⟨w.heap.size + 1, 2, none⟩)) ?_
   simp only [Act.put, I2, I3, I4]
   refine aa rfl (.slice (some ⟨b2, o2, none⟩) ks.length fZ) (fun w' hw => by have := (Y.out.after hw).cell 2 rfl; simp [go_sem, this]) ?_
   simp only [Act.put, I2, I3, I4]
   refine Lg (.int .i64 k) ?_
   simp only [Act.put, I2, I3, I4]
   refine aa rfl (.pointer (some ⟨b2, o2 + k * 10, none⟩)) (fun w' hw => by simp [go_sem, cL, fS, aJ]) ?_
   simp only [Act.put, I2, I3, I4]
   refine bI rfl 29 _ rfl b2 (o2 + k * 10) rfl _ _ ij CT Tryz.underlying29 rfl (by kernel_rfl) ?_
   simp only [Act.put, I2, I3, I4]
   refine be rfl 14 #[.agg (K k).cells, .agg (L k).cells] (fun w' => by simp [go_sem]) (.bool true) (Nat.le_refl _) (fun w' hw => CI.out w' hw) ?_
   simp only [Act.put, I2, I3, I4]
   refine Lg (.bool false) ?_
   simp only [Act.put, I2, I3, I4]
   intro z9 JD
   replace X := I5 (X.out.after JD)
   replace Y := I5 (Y.out.after JD)
   replace B := B.trans (JD.mono B.size)
   clear JD
   clear CI a8 ij
   go_wp2_with fail
   go_roundw
   case rel => exact ⟨k + 1, by omega, by go_num, B, X.out, Y.out⟩
   case measure => simp [intOf]; omega
def formT (t : Tg) : Nat := t.value.form.length
def greatB (a b : Tg) : Bool := a.great 0 || b.great 0 || decide (800 < formT a) || decide (800 < formT b)
theorem JT (a b : Tg) (va vb : TV) (w : World) (ha : RdT (fun _ => True) w va a) (hb : RdT (fun _ => True) w vb b) (Cm : a.count < 4611686018427387904) (ut : b.count < 4611686018427387904) :
  Calls Tryz.prog 11 #[va.val, vb.val] w fun e w' => e = .returned (.bool (greatB a b)) ∧ Below w.heap.size w w' := by
 have RA := I5 ha
 have RB := I5 hb
 have Dg := I5 Cm
 have Df := I5 ut
 clear ha hb Cm ut
 obtain ⟨du, eJ, dV, eI, eU, dN, eT, ao, dZ, dY, eF, ek, eE, d8, d7, eH, em, eG⟩ := va
 obtain ⟨dU, ej, fd, ft, fI, eS, fH, bo, eB, eA, fm, fe, fk, eD, eC, fq, ff, fp⟩ := vb
 obtain ⟨R, hR⟩ : ∃ R, R = greatB a b := ⟨_, rfl⟩
 rw [← hR]
 unfold greatB at hR
 have HD := I5 hR
 clear hR
 obtain ⟨g0, Ez⟩ : ∃ x, x = a.great 0 := ⟨_, rfl⟩
 obtain ⟨g1, m7⟩ : ∃ x, x = b.great 0 := ⟨_, rfl⟩
 have G0 := I5 Ez
 have G1 := I5 m7
 have C0 := I5 (fun w' (h : Below w.heap.size w w') => rP a ⟨du, eJ, dV, eI, eU, dN, eT, ao, dZ, dY, eF, ek, eE, d8, d7, eH, em, eG⟩ 0 w' (RA.out.after h) (by omega))
 have C1 := I5 (fun w' (h : Below w.heap.size w w') => rP b ⟨dU, ej, fd, ft, fI, eS, fH, bo, eB, eA, fm, fe, fk, eD, eC, fq, ff, fp⟩ 0 w' (RB.out.after h) (by omega))
 rw [← Ez] at C0 HD
 rw [← m7] at C1 HD
 clear Ez m7
 let x0 := ((w.alloc (.cells #[.int .u8 du, .slice eJ dV eI, .slice eU dN eT, .int .u8 ao, .bool dZ, .bool dY, .slice eF ek eE, .bool d8, .bool d7, .slice eH em eG] 29)).alloc (.cells #[.int .u8 dU, .slice ej fd ft, .slice fI eS fH, .int .u8 bo, .bool eB, .bool eA, .slice fm fe fk, .bool eD, .bool eC, .slice fq ff fp] 29))
 have B : Below w.heap.size w x0 := ((Below.refl _ _).alloc (Nat.le_refl _) _).alloc (by simp [x0, x0]) _
 have X : Hid (Box x0 w.heap.size 29 #[.int .u8 du, .slice eJ dV eI, .slice eU dN eT, .int .u8 ao, .bool dZ, .bool dY, .slice eF ek eE, .bool d8, .bool d7, .slice eH em eG]) := I5 ((Box.new _ _ _).alloc _)
 have Y : Hid (Box x0 (w.heap.size + 1) 29 #[.int .u8 dU, .slice ej fd ft, .slice fI eS fH, .int .u8 bo, .bool eB, .bool eA, .slice fm fe fk, .bool eD, .bool eC, .slice fq ff fp]) := I5 (by
  have := Box.new (w.alloc (.cells #[.int .u8 du, .slice eJ dV eI, .slice eU dN eT, .int .u8 ao, .bool dZ, .bool dY, .slice eF ek eE, .bool d8, .bool d7, .slice eH em eG] 29)) 29 #[.int .u8 dU, .slice ej fd ft, .slice fI eS fH, .int .u8 bo, .bool eB, .bool eA, .slice fm fe fk, .bool eD, .bool eC, .slice fq ff fp]
  simpa [x0] using this)
 simp only [TV.val]
 show Calls _ _ #[.agg #[.int .u8 du, .slice eJ dV eI, .slice eU dN eT, .int .u8 ao, .bool dZ, .bool dY, .slice eF ek eE, .bool d8, .bool d7, .slice eH em eG], .agg #[.int .u8 dU, .slice ej fd ft, .slice fI eS fH, .int .u8 bo, .bool eB, .bool eA, .slice fm fe fk, .bool eD, .bool eC, .slice fq ff fp]] _ _
 go_enter Tryz.func11, Tryz.ntmps11
 go_upto_region 1 with fail
 change Code.wp _ _ _ _ x0
 clear_value x0
 cases g0 with
 | true =>
  go_step
  refine bC 20 x0.heap.size x0 (Below.refl _ _) ?_
  simp only [List.take_succ_cons, List.take_zero, List.drop_succ_cons, List.drop_zero]
  refine aU rfl 29 _ rfl X.out (by rfl) X.out.lt Tryz.underlying29 rfl (by kernel_rfl) ?_
  simp only [Act.put, I2, I3, I4]
  refine be rfl 6 #[.agg #[.int .u8 du, .slice eJ dV eI, .slice eU dN eT, .int .u8 ao, .bool dZ, .bool dY, .slice eF ek eE, .bool d8, .bool d7, .slice eH em eG], .int .i64 0] (fun w' => by simp [go_sem]) (.bool true) (Nat.le_refl _) (fun w' hw => C0.out w' (B.trans (hw.mono B.size))) ?_
  simp only [Act.put, I2, I3, I4]
  refine Lg (.bool true) ?_
  simp only [Act.put, I2, I3, I4]
  refine aj rfl ?_
  simp only [Act.put, I2, I3, I4]
  refine aj rfl ?_
  simp only [Act.put, I2, I3, I4]
  refine Lg (.bool true) ?_
  simp only [Act.put, I2, I3, I4]
  refine Lg (.bool true) ?_
  simp only [Act.put, I2, I3, I4]
  refine aj rfl ?_
  simp only [Act.put, I2, I3, I4]
  refine aj rfl ?_
  simp only [Act.put, I2, I3, I4]
  refine aj rfl ?_
  simp only [Act.put, I2, I3, I4]
  refine aj rfl ?_
  simp only [Act.put, I2, I3, I4]
  refine aj rfl ?_
  simp only [Act.put, I2, I3, I4]
  refine Lg (.bool true) ?_
  simp only [Act.put, I2, I3, I4]
  refine Lg (.bool true) ?_
  simp only [Act.put, I2, I3, I4]
  refine aj rfl ?_
  simp only [Act.put, I2, I3, I4]
  refine aj rfl ?_
  simp only [Act.put, I2, I3, I4]
  refine aj rfl ?_
  simp only [Act.put, I2, I3, I4]
  refine aj rfl ?_
  simp only [Act.put, I2, I3, I4]
  refine aj rfl ?_
  simp only [Act.put, I2, I3, I4]
  refine Lg (.bool true) ?_
  simp only [Act.put, I2, I3, I4]
  intro y1 af
  replace X := I5 (X.out.after af)
  replace Y := I5 (Y.out.after af)
  replace B := B.trans (af.mono B.size)
  clear af
  go_wp2_with fail
  go_ret
  exact ⟨by rw [HD.out]; rfl, B⟩
 | false =>
  cases g1 with
  | true =>
   go_step
   refine bC 20 x0.heap.size x0 (Below.refl _ _) ?_
   simp only [List.take_succ_cons, List.take_zero, List.drop_succ_cons, List.drop_zero]
   refine aU rfl 29 _ rfl X.out (by rfl) X.out.lt Tryz.underlying29 rfl (by kernel_rfl) ?_
   simp only [Act.put, I2, I3, I4]
   refine be rfl 6 #[.agg #[.int .u8 du, .slice eJ dV eI, .slice eU dN eT, .int .u8 ao, .bool dZ, .bool dY, .slice eF ek eE, .bool d8, .bool d7, .slice eH em eG], .int .i64 0] (fun w' => by simp [go_sem]) (.bool false) (Nat.le_refl _) (fun w' hw => C0.out w' (B.trans (hw.mono B.size))) ?_
   simp only [Act.put, I2, I3, I4]
   refine Lg (.bool false) ?_
   simp only [Act.put, I2, I3, I4]
   refine aU rfl 29 _ rfl Y.out (by rfl) Y.out.lt Tryz.underlying29 rfl (by kernel_rfl) ?_
   simp only [Act.put, I2, I3, I4]
   refine be rfl 6 #[.agg #[.int .u8 dU, .slice ej fd ft, .slice fI eS fH, .int .u8 bo, .bool eB, .bool eA, .slice fm fe fk, .bool eD, .bool eC, .slice fq ff fp], .int .i64 0] (fun w' => by simp [go_sem]) (.bool true) (Nat.le_refl _) (fun w' hw => C1.out w' (B.trans (hw.mono B.size))) ?_
   simp only [Act.put, I2, I3, I4]
   refine Lg (.bool true) ?_
   simp only [Act.put, I2, I3, I4]
   refine Lg (.bool true) ?_
   simp only [Act.put, I2, I3, I4]
   refine aj rfl ?_
   simp only [Act.put, I2, I3, I4]
   refine aj rfl ?_
   simp only [Act.put, I2, I3, I4]
   refine aj rfl ?_
   simp only [Act.put, I2, I3, I4]
   refine aj rfl ?_
   simp only [Act.put, I2, I3, I4]
   refine aj rfl ?_
   simp only [Act.put, I2, I3, I4]
   refine Lg (.bool true) ?_
   simp only [Act.put, I2, I3, I4]
   refine Lg (.bool true) ?_
   simp only [Act.put, I2, I3, I4]
   refine aj rfl ?_
   simp only [Act.put, I2, I3, I4]
   refine aj rfl ?_
   simp only [Act.put, I2, I3, I4]
   refine aj rfl ?_
   simp only [Act.put, I2, I3, I4]
   refine aj rfl ?_
   simp only [Act.put, I2, I3, I4]
   refine aj rfl ?_
   simp only [Act.put, I2, I3, I4]
   refine Lg (.bool true) ?_
   simp only [Act.put, I2, I3, I4]
   intro y1 af
   replace X := I5 (X.out.after af)
   replace Y := I5 (Y.out.after af)
   replace B := B.trans (af.mono B.size)
   clear af
   go_wp2_with fail
   go_ret
   exact ⟨by rw [HD.out]; rfl, B⟩
  | false =>
   obtain ⟨FX, KT⟩ := uB G0.out.symm Dg.out
   obtain ⟨FW, IP⟩ := uB G1.out.symm Df.out
   have Gy := I5 FX
   have Gx := I5 FW
   have K4 := I5 KT
   have KZ := I5 IP
   clear FX FW KT IP
   go_wp2_with (refine ab rfl 29 _ rfl X.out (by rfl) Tryz.underlying29 rfl (by kernel_rfl) ?_)
   refine (C0.out x0 B).mono ?_
   rintro e x1 ⟨rfl, KJ⟩
   replace X := I5 (X.out.after KJ)
   replace Y := I5 (Y.out.after KJ)
   replace B := B.trans (KJ.mono B.size)
   clear KJ
   clear C0
   go_wp2_with (refine ab rfl 29 _ rfl Y.out (by rfl) Tryz.underlying29 rfl (by kernel_rfl) ?_)
   refine (C1.out x1 B).mono ?_
   rintro e x2 ⟨rfl, JQ⟩
   replace X := I5 (X.out.after JQ)
   replace Y := I5 (Y.out.after JQ)
   replace B := B.trans (JQ.mono B.size)
   clear JQ
   clear C1
   go_wp2_with (refine ab rfl 29 _ rfl X.out (by rfl) Tryz.underlying29 rfl (by kernel_rfl) ?_)
   refine (I6 a ⟨du, eJ, dV, eI, eU, dN, eT, ao, dZ, dY, eF, ek, eE, d8, d7, eH, em, eG⟩ 0 x2.heap.size x2 (Nat.le_refl _) ((RA.out.after B).there.mono (fun _ h => h.2)) Gy.out).mono ?_
   rintro e y2 ⟨⟨s2l, s2h, s2a1, s2n1, s2c1, s2a2, s2n2, s2c2, s2a3, s2n3, s2c3⟩, rfl, rd2, Kk⟩
   have RV2 := I5 (rd2.mono (fun _ _ => trivial))
   simp only [SV.val]
   clear rd2
   replace X := I5 (X.out.after Kk)
   replace Y := I5 (Y.out.after Kk)
   replace B := B.trans (Kk.mono B.size)
   clear Kk
   go_wp2_with fail
   refine (wM a.value ⟨s2l, s2h, s2a1, s2n1, s2c1, s2a2, s2n2, s2c2, s2a3, s2n3, s2c3⟩ y2 RV2.out (by have h1 := mT a 0 Gy.out; have h2 := lH a; have h3 := K4.out; omega)).mono ?_
   rintro e y3 EU
   obtain ⟨v2, rfl, ob2, KI⟩ := EU
   obtain ⟨ql, qj, rfl, -⟩ := ob2.sl
   obtain ⟨n2, gk⟩ : ∃ n, n = formT a := ⟨_, rfl⟩
   have iu := I5 gk
   rw [show a.value.form.length = n2 from gk.symm]
   have aK : n2 ≤ 100000000 := by rw [gk]; have h1 := mT a 0 Gy.out; have h2 := lH a; have h3 := K4.out; unfold formT; omega
   clear gk ob2
   replace X := I5 (X.out.after KI)
   replace Y := I5 (Y.out.after KI)
   replace B := B.trans (KI.mono B.size)
   clear KI
   by_cases h8 : 800 < n2
   case pos =>
    have h8i : decide ((800 : Int) < n2) = true := decide_eq_true (by omega)
    have HF : Hid (R = true) := I5 (by rw [HD.out, ← iu.out, decide_eq_true h8]; simp)
    go_wp2_with fail
    go_ret
    exact ⟨by rw [HF.out] <;> rfl, B⟩
   have h8i : decide ((800 : Int) < n2) = false := decide_eq_false (by omega)
   go_wp2_with (refine ab rfl 29 _ rfl Y.out (by rfl) Tryz.underlying29 rfl (by kernel_rfl) ?_)
   refine (I6 b ⟨dU, ej, fd, ft, fI, eS, fH, bo, eB, eA, fm, fe, fk, eD, eC, fq, ff, fp⟩ 0 y3.heap.size y3 (Nat.le_refl _) ((RB.out.after B).there.mono (fun _ h => h.2)) Gx.out).mono ?_
   rintro e y4 ⟨⟨s4l, s4h, s4a1, s4n1, s4c1, s4a2, s4n2, s4c2, s4a3, s4n3, s4c3⟩, rfl, rd4, KH⟩
   have RV4 := I5 (rd4.mono (fun _ _ => trivial))
   simp only [SV.val]
   clear rd4
   replace X := I5 (X.out.after KH)
   replace Y := I5 (Y.out.after KH)
   replace B := B.trans (KH.mono B.size)
   clear KH
   go_wp2_with fail
   refine (wM b.value ⟨s4l, s4h, s4a1, s4n1, s4c1, s4a2, s4n2, s4c2, s4a3, s4n3, s4c3⟩ y4 RV4.out (by have h1 := mT b 0 Gx.out; have h2 := lH b; have h3 := KZ.out; omega)).mono ?_
   rintro e y5 La
   obtain ⟨v4, rfl, ob4, KG⟩ := La
   obtain ⟨fa4, fc4, rfl, -⟩ := ob4.sl
   obtain ⟨n4, KF⟩ : ∃ n, n = formT b := ⟨_, rfl⟩
   have Fs := I5 KF
   rw [show b.value.form.length = n4 from KF.symm]
   have Ld : n4 ≤ 100000000 := by rw [KF]; have h1 := mT b 0 Gx.out; have h2 := lH b; have h3 := KZ.out; unfold formT; omega
   clear KF ob4
   replace X := I5 (X.out.after KG)
   replace Y := I5 (Y.out.after KG)
   replace B := B.trans (KG.mono B.size)
   clear KG
   by_cases h9 : 800 < n4
   case pos =>
    have h9i : decide ((800 : Int) < n4) = true := decide_eq_true (by omega)
    have HF : Hid (R = true) := I5 (by rw [HD.out, ← Fs.out, decide_eq_true h9]; simp)
    go_wp2_with fail
    go_ret
    exact ⟨by rw [HF.out] <;> rfl, B⟩
   have h9i : decide ((800 : Int) < n4) = false := decide_eq_false (by omega)
   have HF : Hid (R = false) := I5 (by rw [HD.out, ← iu.out, ← Fs.out, decide_eq_false h8, decide_eq_false h9]; rfl)
   go_wp2_with fail
   go_ret
   exact ⟨by rw [HF.out] <;> rfl, B⟩
end Go.Proofs.YtmmkaclmgnpplaaGreatDoor

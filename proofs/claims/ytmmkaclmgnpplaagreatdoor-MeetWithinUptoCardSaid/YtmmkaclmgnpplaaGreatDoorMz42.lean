import Derived.Test.YtmmkaclmgnpplaaGreatDoorMz38
set_option maxRecDepth 100000
set_option maxHeartbeats 64000000
set_option linter.unusedSimpArgs false
set_option linter.unusedVariables false
namespace Go.Proofs.YtmmkaclmgnpplaaGreatDoor
open Go.RowKit
theorem OwnG.setElemT {w : World} {B b o n cap : Nat} {K : Nat → TV} (h : OwnG w B 10 (.slice (some ⟨b, o, none⟩) n cap) n (newsT K n)) (i : Nat) (hi : i < n) (u : TV) :
  w.there b (o + i * 10) 10 ∧ OwnG (w.setCells b (o + i * 10) u.cells.toList) B 10 (.slice (some ⟨b, o, none⟩) n cap) n (newsT (fun j => if j = i then u else K j) n) := by
 rcases h.2 with ⟨h2, _⟩ | ⟨g, o', cap', h2, h3, h4, h5, h6, h7, h8⟩
 ·cases h2
 ·cases h2
  have Ax : w.there b (o + i * 10) 10 := fun j hj => by
   have := h7 (i * 10 + j) (by omega)
   rwa [← Nat.add_assoc] at this
  refine ⟨Ax, .made (dP _ _) h3 (by rw [ew]; exact h4) h5 h6 (World.there_setCells h7 _ _ _) (fun j x hx => ?_)⟩
  have hj : j < n * 10 := by
   have := (List.getElem?_eq_some_iff.1 hx).1
   rwa [dP] at this
  obtain ⟨q, r, hr, rfl⟩ : ∃ q r, r < 10 ∧ j = q * 10 + r := ⟨j / 10, j % 10, by omega, by omega⟩
  have hq : q < n := by omega
  rw [jP _ n q r hq hr] at hx
  by_cases F5 : q = i
  ·subst F5
   rw [if_pos rfl] at hx
   have := World.rangeAt_setCells_same w b (o + q * 10) u.cells.toList Ax r x (by simpa using hx)
   rwa [Nat.add_assoc] at this
  ·rw [if_neg F5] at hx
   rw [World.cell?_setCells_out b u.cells.toList (o + i * 10) w ⟨b, o + (q * 10 + r), none⟩ (fun _ _ => by
    show o + (q * 10 + r) < o + i * 10 ∨ o + i * 10 + 10 ≤ o + (q * 10 + r)
    omega)]
   exact h8 (q * 10 + r) x (by rw [jP _ n q r hq hr]; exact hx)
theorem lB {P : Program} {Q : Exit → Act → World → Prop} {op : Oper} {a : Act} {w : World} {K : Act → World → Prop} (ty : TypeId) (x y : Operand) (ho : op.op = .store ty x y)
  (b o : Nat) (v : TV) (hx : a.eval x = .pointer (some ⟨b, o, none⟩)) (hy : a.eval y = v.val) (ht : w.there b o 10) (hi : (P.info? ty).map (·.size) = some 10)
  (h : K (a.put op.dst undef) (w.setCells b o v.cells.toList)) : op.wp P a w K Q :=
 wp_store_mid ty x y ho b o v.cells hx hy ht hi v.one h
theorem se (a : Option Addr) (n c : Nat) (K : Nat → TV) (w : World) (hr : RowT w a n c K) (hn : n ≤ 1000) : Calls Tryz.prog 54 #[.slice a n c] w fun e w' => ∃ v', e = .returned v' ∧ OwnG w' w.heap.size 10 v' n (newsT K n) ∧ Below w.heap.size w w' := by
 cases a with
 | none =>
  have hc := hr.2.2.1 rfl
  have td := hr.1
  obtain rfl : n = 0 := by omega
  subst hc
  clear td hn
  have ly : ∀ W, (binOp .eql 23 (.slice none 0 0) (.slice none 0 0)).run Tryz.prog W = .ok (.bool true) W := fun _ => rfl
  go_enter Tryz.func54, Tryz.ntmps54
  go_wp2_with fail
  go_ret
  exact ⟨_, rfl, OwnG.nil _ _ _, Below.refl _ _⟩
 | some ad =>
  have ly : ∀ W, (binOp .eql 23 (.slice (some ad) n c) (.slice none 0 0)).run Tryz.prog W = .ok (.bool false) W := fun _ => rfl
  have au : Below w.heap.size w (w.alloc (.cells #[] 29)) := (Below.refl _ _).alloc (Nat.le_refl _) _
  have nK : OwnG (w.alloc (.cells #[] 29)) w.heap.size 10 (.slice (some ⟨w.heap.size, 0, none⟩) 0 0) 0 [] := OwnG.new w w.heap.size 10 (Nat.le_refl _) #[] 29 0 0 (Nat.le_refl _) (Nat.zero_le _) rfl
  have HO := I5 nK
  have HS := I5 (hr.after au).srcT
  clear nK hr
  go_enter Tryz.func54, Tryz.ntmps54
  go_wp2_with (refine bk rfl _ _ rfl rfl HO.out rfl HS.out (by omega) (by simp) ?_; intro v2 w2 kS lm oO)
  rw [Nat.zero_add, List.nil_append] at kS
  have hB := au.grown lm (by simp) (fun k hk => by cases hk; exact Nat.le_refl _)
  clear lm oO
  go_ret
  exact ⟨v2, rfl, kS, hB⟩
structure CTk (w u : World) (ay vo : Nat) (am ak ar aq : Bool) (da ll hl : List UInt8) (ks : List Tg) (k : Nat) (v : TV) (K : Nat → TV) : Prop where
 l : v.kd = ay ∧ v.o = vo ∧ v.li = am ∧ v.lo = ak ∧ v.hi = ar ∧ v.ho = aq
 X : Box u w.heap.size 29 v.cells
 R : Box u (w.heap.size + 1) 29 #[.int .u8 0, .slice none 0 0, .slice none 0 0, .int .u8 0, .bool false, .bool false, .slice none 0 0, .bool false, .bool false, .slice none 0 0]
 d : OwnB u (w.heap.size + 2) (.slice v.a1 v.n1 v.c1) da ∧ v.n1 = da.length
 ll : OwnB u (w.heap.size + 2) (.slice v.la v.ln v.lc) ll ∧ v.ln = ll.length
 hl : OwnB u (w.heap.size + 2) (.slice v.ha v.hn v.hc) hl ∧ v.hn = hl.length
 row : OwnG u (w.heap.size + 2) 10 (.slice v.a2 v.n2 v.c2) v.n2 (newsT K v.n2)
 n : v.n2 = ks.length
 s1 : ∀ k, (Value.slice v.a1 v.n1 v.c1).ownBlock = some k → (Value.slice v.a2 v.n2 v.c2).ownBlock ≠ some k
 s2 : ∀ k, (Value.slice v.la v.ln v.lc).ownBlock = some k → (Value.slice v.a2 v.n2 v.c2).ownBlock ≠ some k
 s3 : ∀ k, (Value.slice v.ha v.hn v.hc).ownBlock = some k → (Value.slice v.a2 v.n2 v.c2).ownBlock ≠ some k
 old : ∀ i (hi : i < ks.length), k ≤ i → RdT (fun _ => True) w (K i) ks[i]
 new : ∀ i (hi : i < ks.length), i < k → RdT (fun b => w.heap.size + 2 ≤ b ∧ (Value.slice v.a2 v.n2 v.c2).ownBlock ≠ some b) u (K i) ks[i]
 B : Below w.heap.size w u
theorem CTk.after {w u : World} {ay vo : Nat} {am ak ar aq : Bool} {da ll hl : List UInt8} {ks : List Tg} {v : TV} {K : Nat → TV} {k : Nat} {u' : World} (h : CTk w u ay vo am ak ar aq da ll hl ks k v K) (hb : Below u.heap.size u u') : CTk w u' ay vo am ak ar aq da ll hl ks k v K :=
 ⟨h.l, h.X.after hb, h.R.after hb, ⟨h.d.1.after hb, h.d.2⟩, ⟨h.ll.1.after hb, h.ll.2⟩, ⟨h.hl.1.after hb, h.hl.2⟩, h.row.after hb, h.n, h.s1, h.s2, h.s3, h.old, fun i hi hk => (h.new i hi hk).after hb, h.B.trans (hb.mono h.B.size)⟩
theorem RdT.but {S ok : Nat → Prop} {w1 w2 : World} {v : TV} {s : Tg} (h : RdT ok w1 v s) (hb : But S w1 w2) (ml : ∀ k, ok k → ¬ S k) : RdT ok w2 v s :=
 (h.there.keep (fun k hk => hb.block k hk.2 (ml k hk.1))).mono (fun _ h => h.1)
theorem CTk.next {w u : World} {ay vo : Nat} {am ak ar aq : Bool} {da ll hl : List UInt8} {ks : List Tg} {v : TV} {K : Nat → TV} {k b o : Nat} (h : CTk w u ay vo am ak ar aq da ll hl ks k v K) (ha : v.a2 = some ⟨b, o, none⟩) (hk : k < ks.length) {z : TV} {E : Nat} (hz : RdT (fun x => E ≤ x) u z ks[k]) (hE : ∀ x, (Value.slice v.a2 v.n2 v.c2).ownBlock = some x → x < E) (IX : w.heap.size + 2 ≤ E) :
  u.there b (o + k * 10) 10 ∧ CTk w (u.setCells b (o + k * 10) z.cells.toList) ay vo am ak ar aq da ll hl ks (k + 1) v (fun j => if j = k then z else K j) := by
 have ah := h.row
 rw [ha] at ah
 obtain ⟨Ax, ho⟩ := ah.setElemT k (by rw [h.n]; exact hk) z
 have BF : (Value.slice v.a2 v.n2 v.c2).ownBlock = some b := by rw [ha]; simp [Value.ownBlock]
 have lq := h.row.lt b BF
 have jp := uY u b (o + k * 10) z.cells.toList
 have IW := hE b BF
 refine ⟨Ax, ⟨h.l, jp.box h.X (by omega), jp.box h.R (by omega), ⟨h.d.1.but jp (fun x e hx => h.s1 x e (by rw [hx]; exact BF)), h.d.2⟩, ⟨h.ll.1.but jp (fun x e hx => h.s2 x e (by rw [hx]; exact BF)), h.ll.2⟩, ⟨h.hl.1.but jp (fun x e hx => h.s3 x e (by rw [hx]; exact BF)), h.hl.2⟩, by rw [ha]; exact ho, h.n, h.s1, h.s2, h.s3, fun i hi fS => ?_, fun i hi II => ?_, jp.after h.B h.B.size (fun x hx => by omega)⟩⟩
 ·rw [if_neg (by omega)]
  exact h.old i hi (by omega)
 ·by_cases hik' : i = k
  ·subst hik'
   rw [if_pos rfl]
   exact (hz.but jp (fun x hx e => by omega)).mono (fun x hx => ⟨by omega, fun e => by have := hE x e; omega⟩)
  ·rw [if_neg hik']
   exact (h.new i hi (by omega)).but jp (fun x hx e => hx.2 (by rw [e]; exact BF))
theorem CTk.done {w u : World} {ay vo : Nat} {am ak ar aq : Bool} {da ll hl : List UInt8} {ks : List Tg} {v : TV} {K : Nat → TV} (h : CTk w u ay vo am ak ar aq da ll hl ks ks.length v K) {u' : World} (hb : But (fun k => k = w.heap.size + 1) u u') (fJ : ay < 256) (fF : vo < 256) :
  RdT (fun b => w.heap.size ≤ b) u' v (.mk ay da ks ⟨vo, ⟨am, ak, ll⟩, ⟨ar, aq, hl⟩⟩) := by
 have pb : ∀ {l : List UInt8} {a : Option Addr} {n c : Nat}, OwnB u (w.heap.size + 2) (.slice a n c) l → n = l.length → Sl u' a n c l ∧ InB (fun k => w.heap.size ≤ k) a n := fun ho hn => by
  have h' := OwnG.but ho hb (fun k e hk => by have := (OwnG.lt ho k e).1; omega)
  obtain ⟨a0, n0, c0, e0, s0, i0⟩ := OwnB.parts h'
  cases e0
  exact ⟨s0, i0.mono (fun k hk => by omega)⟩
 obtain ⟨s1, i1⟩ := pb h.d.1 h.d.2
 obtain ⟨s2, i2⟩ := pb h.ll.1 h.ll.2
 obtain ⟨s3, i3⟩ := pb h.hl.1 h.hl.2
 have hr := h.row.but hb (fun k e hk => by have := (h.row.lt k e).1; omega)
 obtain ⟨a3', c3', e3, hrow', hinb'⟩ := hr.rowT
 cases e3
 have Es : ∀ i (hi : i < ks.length), RdT (fun b => w.heap.size ≤ b) u' (K i) ks[i] := fun i hi => ((h.new i hi hi).but hb (fun x hx e => by omega)).mono (fun x hx => by omega)
 obtain ⟨l1, l2, l3, l4, l5, l6⟩ := h.l
 subst l1 l2 l3 l4 l5 l6
 exact .mk v da ks ll hl K s1 i1 s2 i2 s3 i3 hrow' (hinb'.mono (fun k hk => by omega)) h.n Es fJ fF
theorem sd (t : Tg) : ∀ (v : TV) (w : World) (m : Nat), RdT (fun _ => True) w v t → t.wide m = false → Calls Tryz.prog 30 #[v.val] w (TagP t w) := by
 induction t using Tg.ind with
 | h kd da ks r ih =>
 intro v w m hr hw
 have IH := I5 ih
 clear ih
 obtain ⟨_, Ge, Gn, BD, Gg, Ce⟩ := cy hw
 replace Ge : ks.length ≤ 700 := Ge
 have Ba : Hid (∀ k ∈ ks, k.wide (m + 1) = false) := I5 Ce
 have GM := I5 Gn
 have GI := I5 BD
 have GJ := I5 Gg
 clear Ce hw Gn BD Gg
 obtain ⟨⟨cH, ho, cK, dv, dx, dw, fJ, fF⟩, an, hsl, cf, hn, K, ah, hk⟩ := hr.parts
 obtain ⟨ay, aw, ap, av, aA, aS, az, vo, am, ak, aE, aB, aD, ar, aq, aI, aC, aH⟩ := v
 obtain ⟨ro, ⟨li, lo, ll⟩, ⟨hi, mN, hl⟩⟩ := r
 dsimp only [Tg.kd, Tg.r, Tg.da, Tg.ks] at cH ho cK dv dx dw fJ fF an hsl cf hn ah hk
 subst cH ho cK dv dx dw hn
 have fL := I5 an
 have ke := I5 hsl
 have kf := I5 cf
 have HR := I5 ah
 have HK := I5 hk
 have ep := I5 an.1
 have kF := I5 hsl.1
 have kG := I5 cf.1
 have cF := Nat.le_trans an.2.1 an.2.2.1
 have cE := Nat.le_trans ah.1 ah.2.1
 unfold maxLen at cF cE
 clear an hsl cf ah hk hr
 have ig : ap ≤ 5000 := by have := ep.out; have := GM.out; omega
 have gk : aB ≤ 200 := by have h := kF.out; have h2 := GI.out; dsimp only at h h2; omega
 have Du : aC ≤ 200 := by have h := kG.out; have h2 := GJ.out; dsimp only at h h2; omega
 let u0 := ((w.alloc (.cells #[.int .u8 ay, .slice aw ap av, .slice aA ks.length az, .int .u8 vo, .bool am, .bool ak, .slice aE aB aD, .bool ar, .bool aq, .slice aI aC aH] 29)).alloc (.cells #[.int .u8 0, .slice none 0 0, .slice none 0 0, .int .u8 0, .bool false, .bool false, .slice none 0 0, .bool false, .bool false, .slice none 0 0] 29))
 have B0 : Below w.heap.size w u0 := ((Below.refl _ _).alloc (Nat.le_refl _) _).alloc (by simp [u0, u0]) _
 have X0 : Box u0 w.heap.size 29 #[.int .u8 ay, .slice aw ap av, .slice aA ks.length az, .int .u8 vo, .bool am, .bool ak, .slice aE aB aD, .bool ar, .bool aq, .slice aI aC aH] := (Box.new _ _ _).alloc _
 have R00 : Box u0 (w.heap.size + 1) 29 #[.int .u8 0, .slice none 0 0, .slice none 0 0, .int .u8 0, .bool false, .bool false, .slice none 0 0, .bool false, .bool false, .slice none 0 0] := by
  have := Box.new (w.alloc (.cells #[.int .u8 ay, .slice aw ap av, .slice aA ks.length az, .int .u8 vo, .bool am, .bool ak, .slice aE aB aD, .bool ar, .bool aq, .slice aI aC aH] 29)) 29 #[.int .u8 0, .slice none 0 0, .slice none 0 0, .int .u8 0, .bool false, .bool false, .slice none 0 0, .bool false, .bool false, .slice none 0 0]
  simpa [u0] using this
 have E8 : Hid ((u0).heap.size = w.heap.size + 2) := I5 (by simp [u0, u0])
 have SD0 := fL.out.after B0
 have R0 := HR.out.after B0
 have SLL := ke
 have SHH := kf
 clear fL ke kf ep kF kG GM GI GJ
 show Calls _ _ #[.agg #[.int .u8 ay, .slice aw ap av, .slice aA ks.length az, .int .u8 vo, .bool am, .bool ak, .slice aE aB aD, .bool ar, .bool aq, .slice aI aC aH]] _ _
 go_enter Tryz.func30, Tryz.ntmps30
 go_upto_region 1 with fail
 change Code.wp _ _ _ _ u0
 clear_value u0
 have aF : Keeps (fun w' => Box w' w.heap.size 29 #[.int .u8 ay, .slice aw ap av, .slice aA ks.length az, .int .u8 vo, .bool am, .bool ak, .slice aE aB aD, .bool ar, .bool aq, .slice aI aC aH] ∧ Sl w' aw ap av da ∧ RowT w' aA ks.length az K) := fun w1 w2 h b => ⟨h.1.after b, h.2.1.after b, h.2.2.after b⟩
 refine aX (w := u0) [7, 9] (fun w' => Box w' w.heap.size 29 #[.int .u8 ay, .slice aw ap av, .slice aA ks.length az, .int .u8 vo, .bool am, .bool ak, .slice aE aB aD, .bool ar, .bool aq, .slice aI aC aH] ∧ Sl w' aw ap av da ∧ RowT w' aA ks.length az K) rfl (aF _ _ ⟨X0, SD0, R0⟩ (Below.refl _ _).drew) ?_
 refine ag 0 aF rfl (by kernel_rfl) (by kernel_rfl) (by kernel_rfl) (by kernel_rfl) rfl (fun _ _ _ _ h => h) (.pointer (some ⟨w.heap.size, 1, none⟩)) (fun w' h => by simp [go_sem]) ?_
 simp only [Act.put, I2, I3, I4]
 refine ag 1 aF rfl (by kernel_rfl) (by kernel_rfl) (by kernel_rfl) (by kernel_rfl) rfl (fun _ _ _ _ h => h) (.slice aw ap av) (fun w' h => by simp [go_sem, h.1.cell 1 rfl]) ?_
 simp only [Act.put, I2, I3, I4]
 refine ag 3 aF rfl (by kernel_rfl) (by kernel_rfl) (by kernel_rfl) (by kernel_rfl) rfl (fun _ _ _ _ h => h) (.pointer (some ⟨w.heap.size, 2, none⟩)) (fun w' h => by simp [go_sem]) ?_
 simp only [Act.put, I2, I3, I4]
 refine ag 4 aF rfl (by kernel_rfl) (by kernel_rfl) (by kernel_rfl) (by kernel_rfl) rfl (fun _ _ _ _ h => h) (.slice aA ks.length az) (fun w' h => by simp [go_sem, h.1.cell 2 rfl]) ?_
 simp only [Act.put, I2, I3, I4]
 refine aN 2 rfl (by kernel_rfl) rfl rfl ?_
 intro w3 b3 s3
 refine aT 53 #[.slice aw ap av] (by simp [go_sem]) _ (dq aw ap av da w3 s3.2.1 (by omega)) ?_
 rintro e w4 ⟨v4, rfl, ho4, hb4⟩
 obtain ⟨p1, q1, rfl, _⟩ := ho4.sl
 refine ⟨_, rfl, aF _ _ s3 hb4, ?_⟩
 simp only [Act.put, I2, I3, I4]
 refine bG 6 aF rfl (by kernel_rfl) (by kernel_rfl) (by kernel_rfl) (by kernel_rfl) rfl (fun _ _ _ _ h => h) (.pointer (some ⟨w.heap.size, 1, none⟩)) (fun w' => by simp [go_sem]) ?_
 simp only [Act.put, I2, I3, I4]
 refine aN 5 rfl (by kernel_rfl) rfl rfl ?_
 intro w5 b5 s5
 refine aT 54 #[.slice aA ks.length az] (by simp [go_sem]) _ (se aA ks.length az K w5 s5.2.2 (by omega)) ?_
 rintro e w6 ⟨v6, rfl, oP, hb6⟩
 obtain ⟨p2, q2, rfl⟩ := oP.shape
 refine ⟨_, rfl, aF _ _ s5 hb6, ?_⟩
 simp only [Act.put, I2, I3, I4]
 refine dr 7 rfl (by kernel_rfl) (by kernel_rfl) rfl ?_
 intro w7 b7 s7
 refine dc 22 _ _ rfl rfl rfl (s7.1.cell 1 rfl) (s7.1.frozen 1) (fun w => by simp [go_sem]) ?_
 simp only [Act.put, I2, I3, I4]
 refine aG 8 fE rfl (by kernel_rfl) (by kernel_rfl) (by kernel_rfl) rfl (fun _ _ _ _ h => h) (.pointer (some ⟨w.heap.size, 2, none⟩)) (fun w' h => by simp [go_sem]) ?_
 simp only [Act.put, I2, I3, I4]
 refine es 9 rfl (by kernel_rfl) rfl ?_
 intro w9 b9 _
 have X9 := (s7.1.set 1 (.slice p1 da.length q1)).after b9
 refine dc 23 _ _ rfl rfl rfl (X9.cell 2 rfl) (X9.frozen 2) (fun w => by simp [go_sem]) ?_
 refine ⟨trivial, ?_⟩
 simp only [Act.put, I2, I3, I4]
 refine cB (by kernel_rfl) ?_
 intro v0 b10 _
 have X10 : Box v0 w.heap.size 29 #[.int .u8 ay, .slice p1 da.length q1, .slice p2 ks.length q2, .int .u8 vo, .bool am, .bool ak, .slice aE aB aD, .bool ar, .bool aq, .slice aI aC aH] := (X9.set 2 (.slice p2 ks.length q2)).after b10
 have ev : ∀ u v : World, Below u.heap.size u v → But (fun k => k = w.heap.size) u v := fun u v h => But.ofBelow h
 have t610 : But (fun k => k = w.heap.size) w6 v0 := ((((ev _ _ b7).trans (j9 w7 ⟨w.heap.size, 1, none⟩ (.slice p1 da.length q1)) (fun k hk => .inl hk)).trans (ev _ _ b9) (fun k hk => .inl hk)).trans (j9 w9 ⟨w.heap.size, 2, none⟩ (.slice p2 ks.length q2)) (fun k hk => .inl hk)).trans (ev _ _ b10) (fun k hk => .inl hk)
 have t410 : But (fun k => k = w.heap.size) w4 v0 := (ev _ _ (b5.trans (hb6.mono b5.size))).trans t610 (fun k hk => .inl hk)
 have t010 : But (fun k => k = w.heap.size) u0 v0 := (ev _ _ ((Below.refl _ _).drew.trans (b3.trans (hb4.mono b3.size)))).trans t410 (fun k hk => .inl hk)
 have z3 : w.heap.size + 2 ≤ w3.heap.size := by have := b3.size; have := E8.out; simp at *; omega
 have z5 : w4.heap.size ≤ w5.heap.size := b5.size
 have z34 := hb4.size
 have z56 := hb6.size
 have OD := I5 ((OwnB.le (OwnG.but ho4 t410 (fun k e hk => by have := OwnB.own ho4 k e; omega)) z3 : OwnB v0 (w.heap.size + 2) (.slice p1 da.length q1) da))
 have OK := I5 ((oP.but t610 (fun k e hk => by have := oP.lt k e; omega)).le (show w.heap.size + 2 ≤ w5.heap.size by omega))
 have SEP1 := I5 (show ∀ k, (Value.slice p1 da.length q1).ownBlock = some k → (Value.slice p2 ks.length q2).ownBlock ≠ some k from fun k e e2 => by have := OwnB.own ho4 k e; have := oP.lt k e2; omega)
 have R10 := I5 (t010.box R00 (by omega))
 have BV := I5 (t010.after B0 B0.size (fun k hk => by omega))
 have X1v := I5 X10
 have zv : w.heap.size + 2 ≤ v0.heap.size := by have := t010.size; have := E8.out; omega
 have OKl := I5 (fun k e => (OK.out.lt k e).2)
 clear aF b3 s3 ho4 hb4 b5 s5 oP hb6 b7 s7 b9 X9 b10 X10 ev t610 t410 t010 z3 z5 z34 z56 X0 R00 SD0 R0 B0 E8
 have SL0 := SLL.out.after BV.out
 have SH0 := SHH.out.after BV.out
 go_upto_region 2 with fail
 have aF : Keeps (fun w' => Box w' w.heap.size 29 #[.int .u8 ay, .slice p1 da.length q1, .slice p2 ks.length q2, .int .u8 vo, .bool am, .bool ak, .slice aE aB aD, .bool ar, .bool aq, .slice aI aC aH] ∧ Sl w' aE aB aD ll ∧ Sl w' aI aC aH hl) := fun w1 w2 h b => ⟨h.1.after b, h.2.1.after b, h.2.2.after b⟩
 refine aX (w := v0) [13, 17] (fun w' => Box w' w.heap.size 29 #[.int .u8 ay, .slice p1 da.length q1, .slice p2 ks.length q2, .int .u8 vo, .bool am, .bool ak, .slice aE aB aD, .bool ar, .bool aq, .slice aI aC aH] ∧ Sl w' aE aB aD ll ∧ Sl w' aI aC aH hl) rfl (aF _ _ ⟨X1v.out, SL0, SH0⟩ (Below.refl _ _).drew) ?_
 refine ag 0 aF rfl (by kernel_rfl) (by kernel_rfl) (by kernel_rfl) (by kernel_rfl) rfl (fun _ _ _ _ h => h) (.pointer (some ⟨w.heap.size, 3, none⟩)) (fun w' h => by simp [go_sem]) ?_
 simp only [Act.put, I2, I3, I4]
 refine ag 1 aF rfl (by kernel_rfl) (by kernel_rfl) (by kernel_rfl) (by kernel_rfl) rfl (fun _ _ _ _ h => h) (.pointer (some ⟨w.heap.size, 4, none⟩)) (fun w' h => by simp [go_sem]) ?_
 simp only [Act.put, I2, I3, I4]
 refine ag 2 aF rfl (by kernel_rfl) (by kernel_rfl) (by kernel_rfl) (by kernel_rfl) rfl (fun _ _ _ _ h => h) (.pointer (some ⟨w.heap.size, 6, none⟩)) (fun w' h => by simp [go_sem]) ?_
 simp only [Act.put, I2, I3, I4]
 refine ag 3 aF rfl (by kernel_rfl) (by kernel_rfl) (by kernel_rfl) (by kernel_rfl) rfl (fun _ _ _ _ h => h) (.slice aE aB aD) (fun w' h => by simp [go_sem, h.1.cell 6 rfl]) ?_
 simp only [Act.put, I2, I3, I4]
 refine ag 5 aF rfl (by kernel_rfl) (by kernel_rfl) (by kernel_rfl) (by kernel_rfl) rfl (fun _ _ _ _ h => h) (.pointer (some ⟨w.heap.size, 3, none⟩)) (fun w' h => by simp [go_sem]) ?_
 simp only [Act.put, I2, I3, I4]
 refine ag 6 aF rfl (by kernel_rfl) (by kernel_rfl) (by kernel_rfl) (by kernel_rfl) rfl (fun _ _ _ _ h => h) (.pointer (some ⟨w.heap.size, 7, none⟩)) (fun w' h => by simp [go_sem]) ?_
 simp only [Act.put, I2, I3, I4]
 refine ag 7 aF rfl (by kernel_rfl) (by kernel_rfl) (by kernel_rfl) (by kernel_rfl) rfl (fun _ _ _ _ h => h) (.pointer (some ⟨w.heap.size, 9, none⟩)) (fun w' h => by simp [go_sem]) ?_
 simp only [Act.put, I2, I3, I4]
 refine ag 8 aF rfl (by kernel_rfl) (by kernel_rfl) (by kernel_rfl) (by kernel_rfl) rfl (fun _ _ _ _ h => h) (.slice aI aC aH) (fun w' h => by simp [go_sem, h.1.cell 9 rfl]) ?_
 simp only [Act.put, I2, I3, I4]
 refine aN 4 rfl (by kernel_rfl) rfl rfl ?_
 intro w3 b3 s3
 refine aT 53 #[.slice aE aB aD] (by simp [go_sem]) _ (dq aE aB aD ll w3 s3.2.1 (by omega)) ?_
 rintro e w4 ⟨v4, rfl, ho4, hb4⟩
 obtain ⟨p3, q3, rfl, _⟩ := ho4.sl
 refine ⟨_, rfl, aF _ _ s3 hb4, ?_⟩
 simp only [Act.put, I2, I3, I4]
 refine bG 10 aF rfl (by kernel_rfl) (by kernel_rfl) (by kernel_rfl) (by kernel_rfl) rfl (fun _ _ _ _ h => h) (.pointer (some ⟨w.heap.size, 3, none⟩)) (fun w' => by simp [go_sem]) ?_
 simp only [Act.put, I2, I3, I4]
 refine bG 11 aF rfl (by kernel_rfl) (by kernel_rfl) (by kernel_rfl) (by kernel_rfl) rfl (fun _ _ _ _ h => h) (.pointer (some ⟨w.heap.size, 4, none⟩)) (fun w' => by simp [go_sem]) ?_
 simp only [Act.put, I2, I3, I4]
 refine bG 12 aF rfl (by kernel_rfl) (by kernel_rfl) (by kernel_rfl) (by kernel_rfl) rfl (fun _ _ _ _ h => h) (.pointer (some ⟨w.heap.size, 6, none⟩)) (fun w' => by simp [go_sem]) ?_
 simp only [Act.put, I2, I3, I4]
 refine aN 9 rfl (by kernel_rfl) rfl rfl ?_
 intro w5 b5 s5
 refine aT 53 #[.slice aI aC aH] (by simp [go_sem]) _ (dq aI aC aH hl w5 s5.2.2 (by omega)) ?_
 rintro e w6 ⟨v6, rfl, oP, hb6⟩
 obtain ⟨p4, q4, rfl, _⟩ := oP.sl
 refine ⟨_, rfl, aF _ _ s5 hb6, ?_⟩
 simp only [Act.put, I2, I3, I4]
 refine dr 13 rfl (by kernel_rfl) (by kernel_rfl) rfl ?_
 intro w7 b7 s7
 refine dc 22 _ _ rfl rfl rfl (s7.1.cell 6 rfl) (s7.1.frozen 6) (fun w => by simp [go_sem]) ?_
 simp only [Act.put, I2, I3, I4]
 refine aG 14 fE rfl (by kernel_rfl) (by kernel_rfl) (by kernel_rfl) rfl (fun _ _ _ _ h => h) (.pointer (some ⟨w.heap.size, 3, none⟩)) (fun w' h => by simp [go_sem]) ?_
 simp only [Act.put, I2, I3, I4]
 refine aG 15 fE rfl (by kernel_rfl) (by kernel_rfl) (by kernel_rfl) rfl (fun _ _ _ _ h => h) (.pointer (some ⟨w.heap.size, 7, none⟩)) (fun w' h => by simp [go_sem]) ?_
 simp only [Act.put, I2, I3, I4]
 refine aG 16 fE rfl (by kernel_rfl) (by kernel_rfl) (by kernel_rfl) rfl (fun _ _ _ _ h => h) (.pointer (some ⟨w.heap.size, 9, none⟩)) (fun w' h => by simp [go_sem]) ?_
 simp only [Act.put, I2, I3, I4]
 refine es 17 rfl (by kernel_rfl) rfl ?_
 intro w9 b9 _
 have X9 := (s7.1.set 6 (.slice p3 ll.length q3)).after b9
 refine dc 22 _ _ rfl rfl rfl (X9.cell 9 rfl) (X9.frozen 9) (fun w => by simp [go_sem]) ?_
 refine ⟨trivial, ?_⟩
 simp only [Act.put, I2, I3, I4]
 refine cB (by kernel_rfl) ?_
 intro w15 b10 _
 have X10 : Box w15 w.heap.size 29 #[.int .u8 ay, .slice p1 da.length q1, .slice p2 ks.length q2, .int .u8 vo, .bool am, .bool ak, .slice p3 ll.length q3, .bool ar, .bool aq, .slice p4 hl.length q4] := (X9.set 9 (.slice p4 hl.length q4)).after b10
 have ev : ∀ u v : World, Below u.heap.size u v → But (fun k => k = w.heap.size) u v := fun u v h => But.ofBelow h
 have t610 : But (fun k => k = w.heap.size) w6 w15 := ((((ev _ _ b7).trans (j9 w7 ⟨w.heap.size, 6, none⟩ (.slice p3 ll.length q3)) (fun k hk => .inl hk)).trans (ev _ _ b9) (fun k hk => .inl hk)).trans (j9 w9 ⟨w.heap.size, 9, none⟩ (.slice p4 hl.length q4)) (fun k hk => .inl hk)).trans (ev _ _ b10) (fun k hk => .inl hk)
 have t410 : But (fun k => k = w.heap.size) w4 w15 := (ev _ _ (b5.trans (hb6.mono b5.size))).trans t610 (fun k hk => .inl hk)
 have t010 : But (fun k => k = w.heap.size) v0 w15 := (ev _ _ ((Below.refl _ _).drew.trans (b3.trans (hb4.mono b3.size)))).trans t410 (fun k hk => .inl hk)
 have z3 : v0.heap.size ≤ w3.heap.size := by have := b3.size; simp at *; omega
 have z5 : w4.heap.size ≤ w5.heap.size := b5.size
 have z34 := hb4.size
 have z56 := hb6.size
 have zZ : Hid (CTk w w15 ay vo am ak ar aq da ll hl ks 0 ⟨ay, p1, da.length, q1, p2, ks.length, q2, vo, am, ak, p3, ll.length, q3, ar, aq, p4, hl.length, q4⟩ K) := I5 ⟨⟨rfl, rfl, rfl, rfl, rfl, rfl⟩, X10, t010.box R10.out (by omega), ⟨OwnG.but OD.out t010 (fun k e hk => by have := OwnB.own OD.out k e; omega), rfl⟩,
  ⟨OwnB.le (OwnG.but ho4 t410 (fun k e hk => by have := OwnB.own ho4 k e; omega)) (by omega), rfl⟩, ⟨OwnB.le (OwnG.but oP t610 (fun k e hk => by have := OwnB.own oP k e; omega)) (by omega), rfl⟩, OK.out.but t010 (fun k e hk => by have := OK.out.lt k e; omega), rfl,
  SEP1.out, fun k e e2 => by have := OwnB.own ho4 k e; have := OKl.out k e2; omega, fun k e e2 => by have := OwnB.own oP k e; have := OKl.out k e2; omega, fun i hi _ => HK.out i hi, fun i hi h => by omega, t010.after BV.out BV.out.size (fun k hk => by omega)⟩
 have y4 : w15.cell? ⟨w.heap.size, 2, none⟩ = some (.slice p2 ks.length q2) := X10.cell 2 rfl
 clear aF b3 s3 ho4 hb4 b5 s5 oP hb6 b7 s7 b9 X9 b10 X10 ev t610 t410 t010 z3 z5 z34 z56 X1v R10 SL0 SH0 BV OD OK SEP1 OKl
 go_wp2_with fail
 go_loopw [32] (fun i wr => ∃ (k : Nat) (K' : Nat → TV), k ≤ ks.length ∧ i = .int .i64 k ∧ Hid (CTk w wr ay vo am ak ar aq da ll hl ks k ⟨ay, p1, da.length, q1, p2, ks.length, q2, vo, am, ak, p3, ll.length, q3, ar, aq, p4, hl.length, q4⟩ K')) (fun i _ => ks.length - (intOf i).toNat)
 case atStart => exact ⟨0, K, Nat.zero_le _, rfl, zZ⟩
 case round =>
  obtain ⟨k, K', Dw, rfl, HC⟩ := hrel
  clear zZ y4
  by_cases aJ : k < ks.length
  ·have Ek : (k : Int) < ks.length := by omega
   have cL : (0 : Int) ≤ k := by omega
   obtain ⟨b, o, rfl, td, IC⟩ := OwnG.at_ HC.out.row (by show 0 < ks.length; omega)
   have a8 : wr.rangeAt b (o + k * 10) (K' k).cells.toList := by
    obtain ⟨a', c', e', ah, _⟩ := HC.out.row.rowT
    cases e'
    exact ah.rangeA aJ
   have kD := HC.out.old k aJ (Nat.le_refl _)
   obtain ⟨vk, FY⟩ : ∃ vk, vk = K' k := ⟨_, rfl⟩
   rw [← FY] at a8 kD
   have nh := I5 kD
   have Ik := I5 (fun (w' : World) (hb : Below w.heap.size w w') => IH.out ks[k] (List.getElem_mem aJ) vk w' (m + 1) (nh.out.after hb) (Ba.out _ (List.getElem_mem aJ)))
   clear FY kD
   obtain ⟨dt, dp, dj, dm, dn, cZ, dk, eo, dA, dy, dC, dz, dB, dF, dD, dH, dE, dG⟩ := vk
   replace a8 : wr.rangeAt b (o + k * 10) [.int .u8 dt, .slice dp dj dm, .slice dn cZ dk, .int .u8 eo, .bool dA, .bool dy, .slice dC dz dB, .bool dF, .bool dD, .slice dH dE dG] := a8
   go_upto_region 6 with (refine ai rfl 29 _ rfl b _ rfl _ _ a8 Tryz.underlying29 rfl (by kernel_rfl) ?_)
   let z1 := (wr.alloc (.cells #[.int .u8 dt, .slice dp dj dm, .slice dn cZ dk, .int .u8 eo, .bool dA, .bool dy, .slice dC dz dB, .bool dF, .bool dD, .slice dH dE dG] 29))
   have hA : Below wr.heap.size wr z1 := (Below.refl _ _).alloc (Nat.le_refl _) _
   have Y1 : Box z1 wr.heap.size 29 #[.int .u8 dt, .slice dp dj dm, .slice dn cZ dk, .int .u8 eo, .bool dA, .bool dy, .slice dC dz dB, .bool dF, .bool dD, .slice dH dE dG] := Box.new _ _ _
   have C1 := HC.out.after hA
   change Code.wp _ _ _ _ z1
   clear_value z1
   generalize wr.heap.size = y at *
   clear a8 hA
   have aF : Keeps (fun w' => Box w' y 29 #[.int .u8 dt, .slice dp dj dm, .slice dn cZ dk, .int .u8 eo, .bool dA, .bool dy, .slice dC dz dB, .bool dF, .bool dD, .slice dH dE dG] ∧ CTk w w' ay vo am ak ar aq da ll hl ks k ⟨ay, p1, da.length, q1, some ⟨b, o, none⟩, ks.length, q2, vo, am, ak, p3, ll.length, q3, ar, aq, p4, hl.length, q4⟩ K') := fun w1 w2 h hb => ⟨h.1.after hb, h.2.after hb⟩
   refine aX (w := z1) [6] (fun w' => Box w' y 29 #[.int .u8 dt, .slice dp dj dm, .slice dn cZ dk, .int .u8 eo, .bool dA, .bool dy, .slice dC dz dB, .bool dF, .bool dD, .slice dH dE dG] ∧ CTk w w' ay vo am ak ar aq da ll hl ks k ⟨ay, p1, da.length, q1, some ⟨b, o, none⟩, ks.length, q2, vo, am, ak, p3, ll.length, q3, ar, aq, p4, hl.length, q4⟩ K') rfl (aF _ _ ⟨Y1, C1⟩ (Below.refl _ _).drew) ?_
   refine ag 0 aF rfl (by kernel_rfl) (by kernel_rfl) (by kernel_rfl) (by kernel_rfl) rfl (fun _ _ _ _ h => h) (.pointer (some ⟨w.heap.size, 2, none⟩)) (fun w' h => by simp [go_sem]) ?_
   simp only [Act.put, I2, I3, I4]
   refine ag 1 aF rfl (by kernel_rfl) (by kernel_rfl) (by kernel_rfl) (by kernel_rfl) rfl (fun _ _ _ _ h => h) (.slice (some ⟨b, o, none⟩) ks.length q2) (fun w' h => by have q : w'.cell? ⟨w.heap.size, 2, none⟩ = some (.slice (some ⟨b, o, none⟩) ks.length q2) := h.2.X.cell 2 rfl; simp [go_sem, q]) ?_
   simp only [Act.put, I2, I3, I4]
   refine ag 2 aF rfl (by kernel_rfl) (by kernel_rfl) (by kernel_rfl) (by kernel_rfl) rfl (fun _ _ _ _ h => h) (.int .i64 k) (fun w' h => by simp [go_sem]) ?_
   simp only [Act.put, I2, I3, I4]
   refine ag 3 aF rfl (by kernel_rfl) (by kernel_rfl) (by kernel_rfl) (by kernel_rfl) rfl (fun _ _ _ _ h => h) (.agg #[.int .u8 dt, .slice dp dj dm, .slice dn cZ dk, .int .u8 eo, .bool dA, .bool dy, .slice dC dz dB, .bool dF, .bool dD, .slice dH dE dG]) (fun w' h => ds rfl h.1 (by rfl) Tryz.underlying29 rfl (by kernel_rfl)) ?_
   simp only [Act.put, I2, I3, I4]
   refine aN 4 rfl (by kernel_rfl) rfl rfl ?_
   intro w3 b3 s3
   refine aT 30 #[.agg #[.int .u8 dt, .slice dp dj dm, .slice dn cZ dk, .int .u8 eo, .bool dA, .bool dy, .slice dC dz dB, .bool dF, .bool dD, .slice dH dE dG]] (by simp [go_sem]) _ (Ik.out w3 s3.2.B) ?_
   rintro e w4 ⟨vz, rfl, cl4, hb4⟩
   refine ⟨_, rfl, aF _ _ s3 hb4, ?_⟩
   simp only [Act.put, I2, I3, I4]
   refine bG 5 aF rfl (by kernel_rfl) (by kernel_rfl) (by kernel_rfl) (by kernel_rfl) rfl (fun _ _ _ _ h => h) (.pointer (some ⟨b, o + k * 10, none⟩)) (fun w' => by simp [go_sem]; intro hh; omega) ?_
   simp only [Act.put, I2, I3, I4]
   refine dr 6 rfl (by kernel_rfl) (by kernel_rfl) rfl ?_
   intro w5 b5 s5
   have cl5 : RdT (fun x => w3.heap.size ≤ x) w5 vz ks[k] := cl4.after b5
   obtain ⟨Ax, HC5⟩ := s5.2.next rfl aJ cl5 (fun x e => (s3.2.row.lt x e).2) (by have := s3.2.R.lt; omega)
   refine lB 29 _ _ rfl b (o + k * 10) vz rfl rfl Ax (by kernel_rfl) ?_
   simp only [Act.put, I2, I3, I4]
   refine cB (by kernel_rfl) ?_
   intro w6 b6 _
   have Ip := I5 (HC5.after b6)
   clear aF b3 s3 cl4 hb4 b5 s5 cl5 Ax HC5 b6 Y1 C1 HC
   go_wp2_with fail
   go_roundw
   case rel => exact ⟨k + 1, _, by omega, by go_num, Ip⟩
   case measure => simp [intOf]; omega
  ·have te : k = ks.length := by omega
   have Ek : ¬ (k : Int) < ks.length := by omega
   have HX := I5 HC.out.X
   have Ie := I5 HC.out.R
   go_wp2_with first | (refine ab rfl 29 _ rfl HX.out (by rfl) Tryz.underlying29 rfl (by kernel_rfl) ?_) | (refine ac (cells := #[.int .u8 ay, .slice p1 da.length q1, .slice p2 ks.length q2, .int .u8 vo, .bool am, .bool ak, .slice p3 ll.length q3, .bool ar, .bool aq, .slice p4 hl.length q4]) rfl 29 _ _ rfl Ie.out (by rfl) (by rfl) rfl (by kernel_rfl) (by simp [Value.oneCell']) ?_; intro u9 X9 st9)
   have b9 : But (fun k => k = w.heap.size + 1) wr u9 := But.ofStored st9 (st9.below 0 wr (Nat.zero_le _) (Below.refl _ _))
   subst te
   exact bodyPost_ret (v := .agg #[.int .u8 ay, .slice p1 da.length q1, .slice p2 ks.length q2, .int .u8 vo, .bool am, .bool ak, .slice p3 ll.length q3, .bool ar, .bool aq, .slice p4 hl.length q4]) (ae rfl _ _ (by rfl) X9 Tryz.underlying29 rfl (by kernel_rfl)) rfl ⟨⟨ay, p1, da.length, q1, p2, ks.length, q2, vo, am, ak, p3, ll.length, q3, ar, aq, p4, hl.length, q4⟩, rfl, HC.out.done b9 fJ fF, b9.after HC.out.B HC.out.B.size (fun k hk => by omega)⟩
end Go.Proofs.YtmmkaclmgnpplaaGreatDoor

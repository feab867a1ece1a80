import Derived.Test.YtmmkaclmgnpplaaGreatDoorMz38
set_option maxRecDepth 100000
set_option maxHeartbeats 64000000
set_option linter.unusedSimpArgs false
set_option linter.unusedVariables false
namespace Go.Proofs.YtmmkaclmgnpplaaGreatDoor
open Go.RowKit
def LongE : Ending := .panicked [{ v := .iface 51 (.agg #[]), recovered := false }]
def okN (ok : Nat → Prop) (B : Nat) : Nat → Prop := fun b => ok b ∨ B ≤ b
def MetP (ok : Nat → Prop) (g : Nat) (r : Option (Tg × Nat)) (w : World) (e : Ending) (w' : World) : Prop :=
 (r = none ∧ e = LongE ∧ ∃ q, MB g w w' q) ∨ ∃ (t : Tg) (q : Nat) (u : TV), r = some (t, q) ∧ q ≤ 20000 ∧ e = .returned u.val ∧ RdT (okN ok w.heap.size) w' u t ∧ MB g w w' q
theorem MetP.long {ok : Nat → Prop} {g q : Nat} {r : Option (Tg × Nat)} {w w' : World} (h : r = none) (hm : MB g w w' q) : MetP ok g r w LongE w' := .inl ⟨h, rfl, q, hm⟩
theorem MetP.ret {ok : Nat → Prop} {g q : Nat} {t : Tg} {r : Option (Tg × Nat)} {w w' : World} (u : TV) (h : r = some (t, q)) (hq : q ≤ 20000) (hr : RdT (okN ok w.heap.size) w' u t) (hm : MB g w w' q) : MetP ok g r w (.returned u.val) w' := .inr ⟨t, q, u, h, hq, rfl, hr, hm⟩
structure MArg (ok : Nat → Prop) (g : Nat) (w : World) (p : Nat) : Prop where
 box : Box w g 56 #[.int .i64 p]
 le : p ≤ 20000
 tab : TabX (fun k => k = g) w
 old : ∀ b, ok b → b < w.heap.size
 own : ¬ ok g
theorem MB.but {g q : Nat} {w w' : World} (h : MB g w w' q) : But (fun k => k = g) w w' := ⟨h.os, h.tape, h.output, h.size, fun k hk hg => h.block k hk hg⟩
theorem MArg.mb {ok : Nat → Prop} {g p q : Nat} {w w' : World} (h : MArg ok g w p) (hm : MB g w w' q) (hq : q ≤ 20000) : MArg ok g w' q :=
 ⟨hm.box, hq, h.tab.but hm.but, fun b hb => Nat.lt_of_lt_of_le (h.old b hb) hm.size, h.own⟩
theorem MArg.below {ok : Nat → Prop} {g p : Nat} {w w' : World} (h : MArg ok g w p) (hb : Below w.heap.size w w') : MArg ok g w' p := h.mb ((MB.refl h.box).step hb) h.le
theorem MB.rowT {g n c : Nat} {w w' : World} {p : Nat} {ok : Nat → Prop} {a : Option Addr} {K : Nat → TV} (h : MB g w w' p) (hr : RowT w a n c K) (hi : InB ok a n) (hg : ¬ ok g) : RowT w' a n c K :=
 hr.keep ((hi.both hr.lt).imp id fun k b o s e => h.block b (k b o s e).2 (fun e' => hg (e' ▸ (k b o s e).1)))
theorem MB.own {g q B z n : Nat} {w w' : World} {v : Value} {xs : List Value} (h : MB g w w' q) (ho : OwnG w B z v n xs) (hg : g < B) : OwnG w' B z v n xs :=
 ho.but h.but fun k e hk => by have := (ho.lt k e).1; omega
theorem MB.stored {g q k : Nat} {w w1 w2 : World} (h : MB g w w1 q) (st : Stored w1 w2 k) (hk : w.heap.size ≤ k) (hg : k ≠ g) : MB g w w2 q :=
 have b9 := st.below 0 w1 (Nat.zero_le _) (Below.refl _ _)
 ⟨b9.os.trans h.os, b9.tape.trans h.tape, b9.output.trans h.output, Nat.le_trans h.size b9.size, fun j hj gj => (st.other j (by omega)).trans (h.block j hj gj), (st.other g (by omega)).trans h.box⟩
theorem MB.grown {g q : Nat} {w w1 w2 : World} {row : Option Nat} (h : MB g w w1 q) (hg : w1.grownBy w2 row) (hr : ∀ k, row = some k → w.heap.size ≤ k ∧ k ≠ g ∨ w1.heap.size ≤ k) : MB g w w2 q :=
 have hb := But.ofGrown hg (S := fun k => row = some k) (fun _ e => e)
 ⟨hb.os.trans h.os, hb.tape.trans h.tape, hb.output.trans h.output, Nat.le_trans h.size hb.size, fun j hj gj => (hb.block j (Nat.lt_of_lt_of_le hj h.size) (fun e => by have := hr j e; have := h.size; omega)).trans (h.block j hj gj), hb.box h.box (fun e => by have := hr g e; have := h.box.lt; omega)⟩
theorem eO {ok : Nat → Prop} {B B' b : Nat} (h : B ≤ B') (hb : okN ok B' b) : okN ok B b := hb.imp id (fun h' => Nat.le_trans h h')
def MeetOk (n : Nat) : Prop := ∀ (a b : Tg) (p : Nat) (va vb : TV) (w : World) (g : Nat) (ok : Nat → Prop), a.count + b.count ≤ n → Fit a → Fit b → MArg ok g w p → RdT ok w va a → RdT ok w vb b →
 Calls Tryz.prog 31 #[.pointer (some ⟨g, 0, none⟩), va.val, vb.val] w (MetP ok g (meetF n a b p) w)
def BothOk (n : Nat) : Prop := ∀ (a b : Tg) (p : Nat) (va vb : TV) (w : World) (g : Nat) (ok : Nat → Prop), a.count + b.count ≤ n + 1 → Fit a → Fit b → MArg ok g w p → RdT ok w va a → RdT ok w vb b →
 Calls Tryz.prog 55 #[.pointer (some ⟨g, 0, none⟩), va.val, vb.val] w (MetP ok g (bothF n a b p) w)
theorem MeetOk.zero : MeetOk 0 := fun a b p va vb w g ok h => by have := kV a; omega
theorem wk (t : Tg) (v : TV) (w : World) (hr : RdT (fun _ => True) w v t) (hw : t.count ≤ 512 → t.wide 0 = false) (ht : Tab w) : Calls Tryz.prog 20 #[v.val] w fun e w' => e = .returned (.bool t.may) ∧ Below w.heap.size w w' := by
 by_cases hc : t.count ≤ 512
 ·exact jQ t v 0 w hr (hw hc) ht
 have gU := I5 hr
 obtain ⟨ay, aw, ap, av, aA, aS, az, vo, am, ak, aE, aB, aD, ar, aq, aI, aC, aH⟩ := v
 have HD := I5 (y6 t hc)
 obtain ⟨f, hf⟩ : ∃ f, f = t.few 512 := ⟨_, rfl⟩
 have C1 := I5 (fun w' (h : Below w.heap.size w w') => l9 t ⟨ay, aw, ap, av, aA, aS, az, vo, am, ak, aE, aB, aD, ar, aq, aI, aC, aH⟩ 512 w' (gU.out.after h) (by omega) (by omega))
 have IK : ¬ f ≤ 512 := fun h => by have h2 := nP t; rw [← hf, decide_eq_true h, decide_eq_false hc] at h2; cases h2
 rw [← hf] at C1
 clear hr hw ht hf hc
 let x0 := (w.alloc (.cells #[.int .u8 ay, .slice aw ap av, .slice aA aS az, .int .u8 vo, .bool am, .bool ak, .slice aE aB aD, .bool ar, .bool aq, .slice aI aC aH] 29))
 have B : Below w.heap.size w x0 := (Below.refl _ _).alloc (Nat.le_refl _) _
 have X : Hid (Box x0 w.heap.size 29 #[.int .u8 ay, .slice aw ap av, .slice aA aS az, .int .u8 vo, .bool am, .bool ak, .slice aE aB aD, .bool ar, .bool aq, .slice aI aC aH]) := I5 (Box.new _ _ _)
 show Calls _ _ #[.agg #[.int .u8 ay, .slice aw ap av, .slice aA aS az, .int .u8 vo, .bool am, .bool ak, .slice aE aB aD, .bool ar, .bool aq, .slice aI aC aH]] _ _
 go_enter Tryz.func20, Tryz.ntmps20
 go_upto_region 1 with fail
 change Code.wp _ _ _ _ x0
 clear_value x0
 go_wp2_with (refine ab rfl 29 _ rfl X.out (by rfl) Tryz.underlying29 rfl (by kernel_rfl) ?_)
 refine (C1.out x0 B).mono ?_
 rintro e x1 ⟨rfl, bx1⟩
 replace X := I5 (X.out.after bx1)
 replace B := B.trans (bx1.mono B.size)
 clear bx1
 go_wp2_with fail
 go_ret
 exact ⟨by rw [HD.out]; rfl, B⟩
theorem yd (n : Nat) (zM : BothOk n) : MeetOk (n + 1) := by
 intro a b p va vb w g ok hc ha hb hm hra hrb
 have HB := I5 (zM a b p.succ va vb)
 have MA := I5 hm
 have RA := I5 hra
 have RB := I5 hrb
 have HA := I5 ha
 have Aa := I5 hb
 have HC := I5 hc
 have AL := hm.box.lt
 have hp := hm.le
 clear zM hc ha hb hm hra hrb
 obtain ⟨R, hR⟩ : ∃ R, R = meetF (n + 1) a b p := ⟨_, rfl⟩
 rw [← hR]
 have HR := I5 (hR.trans (jk n a b p))
 clear hR
 obtain ⟨du, eJ, dV, eI, eU, dN, eT, ao, dZ, dY, eF, ek, eE, d8, d7, eH, em, eG⟩ := va
 obtain ⟨dU, ej, fd, ft, fI, eS, fH, bo, eB, eA, fm, fe, fk, eD, eC, fq, ff, fp⟩ := vb
 let x0 := (((w.alloc (.cells #[.int .u8 du, .slice eJ dV eI, .slice eU dN eT, .int .u8 ao, .bool dZ, .bool dY, .slice eF ek eE, .bool d8, .bool d7, .slice eH em eG] 29)).alloc (.cells #[.int .u8 dU, .slice ej fd ft, .slice fI eS fH, .int .u8 bo, .bool eB, .bool eA, .slice fm fe fk, .bool eD, .bool eC, .slice fq ff fp] 29)).alloc (.cells #[.int .u8 0, .slice none 0 0, .slice none 0 0, .int .u8 0, .bool false, .bool false, .slice none 0 0, .bool false, .bool false, .slice none 0 0] 29))
 have B : Below w.heap.size w x0 := (((Below.refl _ _).alloc (Nat.le_refl _) _).alloc (by simp [x0, x0]) _).alloc (by simp [x0, x0]; omega) _
 have X : Hid (Box x0 w.heap.size 29 #[.int .u8 du, .slice eJ dV eI, .slice eU dN eT, .int .u8 ao, .bool dZ, .bool dY, .slice eF ek eE, .bool d8, .bool d7, .slice eH em eG]) := I5 (((Box.new _ _ _).alloc _).alloc _)
 have Y : Hid (Box x0 (w.heap.size + 1) 29 #[.int .u8 dU, .slice ej fd ft, .slice fI eS fH, .int .u8 bo, .bool eB, .bool eA, .slice fm fe fk, .bool eD, .bool eC, .slice fq ff fp]) := I5 (by
  have := (Box.new (w.alloc (.cells #[.int .u8 du, .slice eJ dV eI, .slice eU dN eT, .int .u8 ao, .bool dZ, .bool dY, .slice eF ek eE, .bool d8, .bool d7, .slice eH em eG] 29)) 29 #[.int .u8 dU, .slice ej fd ft, .slice fI eS fH, .int .u8 bo, .bool eB, .bool eA, .slice fm fe fk, .bool eD, .bool eC, .slice fq ff fp]).alloc (.cells #[.int .u8 0, .slice none 0 0, .slice none 0 0, .int .u8 0, .bool false, .bool false, .slice none 0 0, .bool false, .bool false, .slice none 0 0] 29)
  simpa [x0] using this)
 have Z : Hid (Box x0 (w.heap.size + 2) 29 #[.int .u8 0, .slice none 0 0, .slice none 0 0, .int .u8 0, .bool false, .bool false, .slice none 0 0, .bool false, .bool false, .slice none 0 0]) := I5 (by
  have := Box.new ((w.alloc (.cells #[.int .u8 du, .slice eJ dV eI, .slice eU dN eT, .int .u8 ao, .bool dZ, .bool dY, .slice eF ek eE, .bool d8, .bool d7, .slice eH em eG] 29)).alloc (.cells #[.int .u8 dU, .slice ej fd ft, .slice fI eS fH, .int .u8 bo, .bool eB, .bool eA, .slice fm fe fk, .bool eD, .bool eC, .slice fq ff fp] 29)) 29 #[.int .u8 0, .slice none 0 0, .slice none 0 0, .int .u8 0, .bool false, .bool false, .slice none 0 0, .bool false, .bool false, .slice none 0 0]
  simpa [x0] using this)
 simp only [TV.val]
 show Calls _ _ #[.pointer (some ⟨g, 0, none⟩), .agg #[.int .u8 du, .slice eJ dV eI, .slice eU dN eT, .int .u8 ao, .bool dZ, .bool dY, .slice eF ek eE, .bool d8, .bool d7, .slice eH em eG], .agg #[.int .u8 dU, .slice ej fd ft, .slice fI eS fH, .int .u8 bo, .bool eB, .bool eA, .slice fm fe fk, .bool eD, .bool eC, .slice fq ff fp]] _ _
 go_enter Tryz.func31, Tryz.ntmps31
 go_upto_region 1 with fail
 change Code.wp _ _ _ _ x0
 clear_value x0
 have MW := I5 ((MB.refl MA.out.box).step B)
 have gc := MW.out.box.cell 0 rfl
 have gf := MW.out.box.frozen 0
 have BT := Z.out.lt
 go_upto_region 2 with fail
 change Code.wp _ _ _ _ (x0.setCell ⟨g, 0, none⟩ (.int .i64 ((p : Int) + 1)))
 have M1 := MB.set (q := p + 1) MW.out.box
 rw [show ((p + 1 : Nat) : Int) = (p : Int) + 1 by omega] at M1
 replace X := I5 (M1.far X.out (by omega))
 replace Y := I5 (M1.far Y.out (by omega))
 replace Z := I5 (M1.far Z.out (by omega))
 replace MW := I5 (MW.out.trans M1)
 have Ch := M1.size
 clear M1 gc gf
 generalize x0.setCell ⟨g, 0, none⟩ (.int .i64 ((p : Int) + 1)) = x1 at *
 have gc : x1.cell? ⟨g, 0, none⟩ = some (.int .i64 ((p : Int) + 1)) := MW.out.box.cell 0 (by rfl)
 by_cases h20 : 20000 < p + 1
 case pos =>
  have t20 : (20000 : Int) < (p : Int) + 1 := by omega
  go_wp2_with fail
  exact ⟨rfl, MetP.long (by rw [HR.out, if_pos h20]) MW.out⟩
 have t20 : ¬ (20000 : Int) < (p : Int) + 1 := by omega
 have Dr := MW.out.size
 have up := B.size
 go_wp2_with first | (refine ab rfl 29 _ rfl X.out (by rfl) Tryz.underlying29 rfl (by kernel_rfl) ?_) | (refine ab rfl 29 _ rfl Y.out (by rfl) Tryz.underlying29 rfl (by kernel_rfl) ?_)
 refine (HB.out x1 g ok HC.out HA.out Aa.out (MA.out.mb MW.out (by omega)) (MW.out.rdT RA.out MA.out.own) (MW.out.rdT RB.out MA.out.own)).mono ?_
 rintro e x2 (⟨hr, rfl, q, hm⟩ | ⟨t, q, u, hr, hq, rfl, rt, hm⟩)
 ·unfold LongE
  exact ⟨rfl, MetP.long (by rw [HR.out, if_neg h20]; simp only [hr]) (MW.out.trans hm)⟩
 have HF := I5 (fun hc => mG n (ef n) a b (p + 1) t q HA.out Aa.out hr hc)
 replace HR : Hid (R = if t.may then some (t, q) else none) := I5 (by rw [HR.out, if_neg h20]; simp only [hr])
 have RT := I5 rt
 have MM := I5 (MW.out.trans hm)
 replace Z := I5 (hm.far Z.out (by omega))
 have TB2 := I5 (MA.out.mb MM.out hq).tab
 have aO := hm.size
 have kQ := Z.out.lt
 clear hr rt hm X Y gc MW HB
 obtain ⟨gZ, gB, gz, gA, gT, gR, fZ, uo, eu, et, eY, eW, eX, fa, eZ, fw, fu, fv⟩ := u
 simp only [TV.val]
 go_upto_region 5 with fail
 let x3 := (x2.alloc (.cells #[.int .u8 gZ, .slice gB gz gA, .slice gT gR fZ, .int .u8 uo, .bool eu, .bool et, .slice eY eW eX, .bool fa, .bool eZ, .slice fw fu fv] 29))
 change Code.wp _ _ _ _ x3
 have ca : Below x2.heap.size x2 x3 := (Below.refl _ _).alloc (Nat.le_refl _) _
 have E : Hid (Box x3 x2.heap.size 29 #[.int .u8 gZ, .slice gB gz gA, .slice gT gR fZ, .int .u8 uo, .bool eu, .bool et, .slice eY eW eX, .bool fa, .bool eZ, .slice fw fu fv]) := I5 (Box.new _ _ _)
 replace Z := I5 (Z.out.after ca)
 clear_value x3
 go_wp2_with (refine ab rfl 29 _ rfl E.out (by rfl) Tryz.underlying29 rfl (by kernel_rfl) ?_)
 refine (wk t ⟨gZ, gB, gz, gA, gT, gR, fZ, uo, eu, et, eY, eW, eX, fa, eZ, fw, fu, fv⟩ x3 ((RT.out.after ca).mono (fun _ _ => trivial)) HF.out (TB2.out.tab.after ca)).mono ?_
 rintro e x4 ⟨rfl, hb4⟩
 have c4 := ca.trans (hb4.mono ca.size)
 replace E := I5 (E.out.after hb4)
 replace Z := I5 (Z.out.after hb4)
 clear hb4 ca HF
 obtain ⟨my, vr⟩ : ∃ m, m = t.may := ⟨_, rfl⟩
 rw [← vr] at HR ⊢
 clear vr
 cases my with
 | false =>
  go_wp2_with fail
  exact ⟨rfl, MetP.long (q := q) (by rw [HR.out]; rfl) (MM.out.step c4)⟩
 | true =>
  go_wp2_with first | (refine ab rfl 29 _ rfl E.out (by rfl) Tryz.underlying29 rfl (by kernel_rfl) ?_) | (refine ac (cells := #[.int .u8 gZ, .slice gB gz gA, .slice gT gR fZ, .int .u8 uo, .bool eu, .bool et, .slice eY eW eX, .bool fa, .bool eZ, .slice fw fu fv]) rfl 29 _ _ rfl Z.out (by rfl) (by rfl) rfl (by kernel_rfl) (by simp [Value.oneCell']) ?_; intro u9 X9 st9)
  have R9 : RdT (okN ok w.heap.size) u9 ⟨gZ, gB, gz, gA, gT, gR, fZ, uo, eu, et, eY, eW, eX, fa, eZ, fw, fu, fv⟩ t := (((RT.out.after c4).there).keep (w' := u9) (fun b hb => st9.other b (by have h1 := hb.1; rcases h1 with h1 | h1; have := MA.out.old b h1; omega; omega))).mono (fun b hb => eO (by omega) hb.1)
  have M9 : MB g w u9 q := (MM.out.step c4).stored st9 (by omega) (by omega)
  exact bodyPost_ret (v := .agg #[.int .u8 gZ, .slice gB gz gA, .slice gT gR fZ, .int .u8 uo, .bool eu, .bool et, .slice eY eW eX, .bool fa, .bool eZ, .slice fw fu fv]) (ae rfl _ _ (by rfl) X9 Tryz.underlying29 rfl (by kernel_rfl)) rfl (MetP.ret ⟨gZ, gB, gz, gA, gT, gR, fZ, uo, eu, et, eY, eW, eX, fa, eZ, fw, fu, fv⟩ (by rw [HR.out]; rfl) hq R9 M9)
end Go.Proofs.YtmmkaclmgnpplaaGreatDoor

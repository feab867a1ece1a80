import Derived.Test.YtmmkaclmgnpplaaGreatDoorMz2
import Derived.Test.YtmmkaclmgnpplaaGreatDoorMz3
import Derived.Laws.CopyOwn
set_option maxRecDepth 100000
set_option maxHeartbeats 64000000
set_option linter.unusedSimpArgs false
set_option linter.unusedVariables false
namespace Go.Proofs.YtmmkaclmgnpplaaGreatDoor
open Go.RowKit
theorem lu {P : Program} {ops : Array Oper} {Q : Exit → Act → World → Prop} {md : Region.Mode} {S : World → Prop} (i : Nat) {oi : Oper} {tl : List Oper} {fuel : Nat} {listed : Array Bool} {a : Act} {w : World} (hi : ops.toList.drop i = oi :: tl) (hr : Region.ready md ops listed = [i]) (dR : Region.wanted oi (yielded ops a.tmps) = true)
  (v : World → Value) (W : World → World) (h : ∀ w1, Below w.heap.size w w1 → S w1 → (execOp a.eval oi).run P w1 = .ok (.value (v w1)) (W w1) ∧ S (W w1) ∧ wpU P md ops Q S fuel (listed.setIfInBounds i true) (a.put oi.dst (v w1)) (W w1)) : wpU P md ops Q S (fuel + 1) listed a w :=
 es i hi hr dR (fun w1 b1 s1 => by
  obtain ⟨h1, h2, h3⟩ := h w1 b1 s1
  unfold Oper.wp
  rw [h1]
  exact ⟨h2, h3⟩)
theorem ji (n : Int) (h : n < 10) : numL n = [UInt8.ofNat (48 + n.toNat)] := by
 unfold numL; rw [Lib.decDigits, dif_pos (by omega)]
theorem nB (n : Int) (h : 10 ≤ n) : numL n = numL (n / 10) ++ [UInt8.ofNat (48 + (n % 10).toNat)] := by
 unfold numL
 rw [Lib.decDigits, dif_neg (by omega)]
 congr 2
 ·omega
 ·congr 1; omega
theorem jd : ∀ (k u : Nat), u < 10 ^ (k + 1) → (Lib.decDigits u).length ≤ k + 1
 | 0, u, h => by rw [Lib.decDigits, dif_pos (by simpa using h)]; simp
 | k + 1, u, h => by
  rw [Lib.decDigits]
  split
  ·simp
  ·rw [List.length_append]
   have := jd k (u / 10) (by rw [Nat.pow_succ] at h; omega)
   simp; omega
theorem jM (n : Int) (h : n ≤ 9223372036854775807) : (numL n).length ≤ 19 := jd 18 _ (by omega)
theorem AZ (a b : List UInt8) : (⟨a.toArray⟩ : ByteArray) ++ ⟨b.toArray⟩ = ⟨(a ++ b).toArray⟩ := by apply ByteArray.ext; simp
theorem fB (w : World) (c : UInt8) (z : Int) (hz : z = (c.toNat : Int)) : Sl (w.alloc (.cells #[.int .u8 z] 5)) (some ⟨w.heap.size, 0, none⟩) 1 1 [c] := by
 subst hz
 refine ⟨rfl, Nat.le_refl _, by unfold maxLen; omega, (fun h => by cases h), .inr ⟨w.heap.size, 0, rfl, fun i hi => ?_⟩⟩
 obtain rfl : i = 0 := by omega
 simp
theorem nz (r : Nat) (h : r ≤ 9) : (48 : Int) + (r : Int) = ((UInt8.ofNat (48 + r)).toNat : Int) := by
 simp; omega
theorem nT (n : Int) (hn : n < 10) (w : World) :
  Calls Tryz.prog 83 #[.int .i64 n] w fun e w' => e = .returned (.string ⟨(numL n).toArray⟩) ∧ Below w.heap.size w w' := by
 have HN := I5 (ji n hn)
 obtain ⟨r, hr⟩ : ∃ r : Nat, max n 0 = (r : Int) := ⟨n.toNat, by omega⟩
 have D8 : r ≤ 9 := by omega
 have F3 : n.toNat = r := by omega
 rw [F3] at HN
 have hz := nz r D8
 obtain ⟨c, hc⟩ : ∃ c, c = UInt8.ofNat (48 + r) := ⟨_, rfl⟩
 rw [← hc] at HN hz
 have hs := bv (fB w c (48 + (r : Int)) hz)
 clear F3 hz hc
 go_enter Tryz.func83, Tryz.ntmps83
 go_wp2_with fail
 go_ret
 exact ⟨by rw [HN.out]; rfl, (Below.refl _ _).alloc (Nat.le_refl _) _⟩
set_option linter.unusedSimpArgs false in
theorem za : ∀ (k : Nat) (n : Int) (_ : n.toNat ≤ k) (_ : n ≤ 9223372036854775807) (w : World),
  Calls Tryz.prog 83 #[.int .i64 n] w fun e w' => e = .returned (.string ⟨(numL n).toArray⟩) ∧ Below w.heap.size w w' := by
 intro k
 induction k with
 | zero => intro n hk h1 w; exact nT n (by omega) w
 | succ k ih =>
  intro n hk h1 w
  by_cases hn : n < 10
  ·exact nT n hn w
  replace hn : 10 ≤ n := by omega
  have HN := I5 (nB n hn)
  obtain ⟨q, hq⟩ : ∃ q, n / 10 = q := ⟨_, rfl⟩
  obtain ⟨r, hr⟩ : ∃ r : Nat, n % 10 = (r : Int) := ⟨(n % 10).toNat, by omega⟩
  have D8 : r ≤ 9 := by omega
  have IH := I5 (fun w => ih q (by omega) (by omega) w)
  rw [hq, hr, Int.toNat_natCast] at HN
  have xB := I5 (jM q (by omega))
  have hz := nz r D8
  obtain ⟨c, hc⟩ : ∃ c, c = UInt8.ofNat (48 + r) := ⟨_, rfl⟩
  rw [← hc] at HN hz
  have HZ := I5 hz
  have e1 : IntKind.i64.wrap (n.tdiv 10) = q := by rw [Int.tdiv_eq_ediv_of_nonneg (by omega), hq]; exact IntWalk.i64_in _ ⟨by omega, by omega⟩
  have e2 : n.tmod 10 = (r : Int) := by rw [Int.tmod_eq_emod_of_nonneg (by omega), hr]
  have e3 : IntKind.u8.wrap (r : Int) = (r : Int) := by rw [IntKind.wrap_u8]; omega
  have e4 : IntKind.u8.wrap (48 + (r : Int)) = 48 + (r : Int) := by rw [IntKind.wrap_u8]; omega
  clear hz hc
  go_enter Tryz.func83, Tryz.ntmps83
  go_upto_region 3 with fail
  have aF : Keeps (fun _ => True) := fun _ _ h _ => h
  refine fN (w := w) (fun _ => True) rfl trivial ?_
  refine aG 0 aF rfl (by kernel_rfl) (by kernel_rfl) (by kernel_rfl) rfl (fun _ _ _ _ h => h) (.int .i64 n) (fun w' h => by simp [go_sem, e1, e2, e3, e4]) ?_
  simp only [Act.put, I2, I3, I4]
  refine aG 1 aF rfl (by kernel_rfl) (by kernel_rfl) (by kernel_rfl) rfl (fun _ _ _ _ h => h) (.int .i64 q) (fun w' h => by simp [go_sem, e1, e2, e3, e4]) ?_
  simp only [Act.put, I2, I3, I4]
  refine vG 2 aF rfl (by kernel_rfl) (by kernel_rfl) (by kernel_rfl) rfl (fun _ _ _ _ h => h) 83 #[.int .i64 q] (fun w => by simp [go_sem]) _ (IH.out) ?_
  simp only [Act.put, I2, I3, I4]
  refine aG 3 aF rfl (by kernel_rfl) (by kernel_rfl) (by kernel_rfl) rfl (fun _ _ _ _ h => h) (.int .i64 n) (fun w' h => by simp [go_sem, e1, e2, e3, e4]) ?_
  simp only [Act.put, I2, I3, I4]
  refine aG 4 aF rfl (by kernel_rfl) (by kernel_rfl) (by kernel_rfl) rfl (fun _ _ _ _ h => h) (.int .i64 r) (fun w' h => by simp [go_sem, e1, e2, e3, e4]) ?_
  simp only [Act.put, I2, I3, I4]
  refine aG 5 aF rfl (by kernel_rfl) (by kernel_rfl) (by kernel_rfl) rfl (fun _ _ _ _ h => h) (.int .u8 r) (fun w' h => by simp [go_sem, e1, e2, e3, e4]) ?_
  simp only [Act.put, I2, I3, I4]
  refine aG 6 aF rfl (by kernel_rfl) (by kernel_rfl) (by kernel_rfl) rfl (fun _ _ _ _ h => h) (.int .u8 (48 + (r : Int))) (fun w' h => by simp [go_sem, e1, e2, e3, e4]) ?_
  simp only [Act.put, I2, I3, I4]
  refine lu 7 rfl (by kernel_rfl) rfl (fun w1 => .slice (some ⟨w1.heap.size, 0, none⟩) 1 1) (fun w1 => w1.alloc (.cells #[.int .u8 (48 + (r : Int))] 5)) (fun w1 b1 _ => ⟨by simp [go_sem], trivial, ?_⟩)
  simp only [Act.put, I2, I3, I4]
  have s1 := fB w1 (c) (48 + (r : Int)) HZ.out
  have bb : Below w.heap.size w (w1.alloc (.cells #[.int .u8 (48 + (r : Int))] 5)) := ((Below.refl _ _).drew.trans (b1.mono (Nat.le_refl _))).alloc (by have := b1.size; simpa using this) _
  generalize w1.alloc (.cells #[.int .u8 (48 + (r : Int))] 5) = W2 at *
  generalize w1.heap.size = g at *
  refine lu 8 rfl (by kernel_rfl) rfl (fun _ => .string ⟨[c].toArray⟩) (fun w1 => w1) (fun w2 b2 _ => ⟨by have := bv (s1.after b2); simp [go_sem, this], trivial, ?_⟩)
  simp only [Act.put, I2, I3, I4]
  refine lu 9 rfl (by kernel_rfl) rfl (fun _ => .string ⟨(numL n).toArray⟩) (fun w1 => w1) (fun w3 b3 _ => ⟨by simp [go_sem, HN.out]; rw [if_neg (by have := xB.out; omega)]; have := AZ (numL q) [c]; rw [this], trivial, ?_⟩)
  simp only [Act.put, I2, I3, I4]
  refine lu 10 rfl (by kernel_rfl) rfl (fun _ => .string ⟨(numL n).toArray⟩) (fun w1 => w1) (fun w4 b4 _ => ⟨by simp [go_sem], trivial, ?_⟩)
  simp only [Act.put, I2, I3, I4]
  refine cB (by kernel_rfl) ?_
  intro w5 b5 _
  have hB := bb.trans ((((b2.trans (b3.mono b2.size)).trans (b4.mono (b2.trans (b3.mono b2.size)).size)).trans (b5.mono ((b2.trans (b3.mono b2.size)).trans (b4.mono (b2.trans (b3.mono b2.size)).size)).size)).mono bb.size)
  clear b1 b2 b3 b4 b5
  go_wp2_with fail
  go_ret
  exact ⟨rfl, hB⟩
def textL (l : List UInt8) : List UInt8 := numL l.length ++ 58 :: l
theorem iz (l : List UInt8) (h : l.length ≤ 9223372036854775807) : (textL l).length ≤ l.length + 20 := by
 have := jM (l.length : Int) (by omega)
 simp only [textL, List.length_append, List.length_cons]
 omega
mutual
def Sx.form : Sx → List UInt8
 | .mk l h hi da ks => if l then 40 :: (Sx.formL ks ++ [41]) else (if h then 91 :: (textL hi ++ [93]) else []) ++ textL da
def Sx.formL : List Sx → List UInt8
 | [] => []
 | k :: r => k.form ++ Sx.formL r
end
theorem Sx.formL_append (a b : List Sx) : Sx.formL (a ++ b) = Sx.formL a ++ Sx.formL b := by
 induction a with
 | nil => rfl
 | cons k a ih => simp only [List.cons_append, Sx.formL, ih, List.append_assoc]
theorem Sx.formL_snoc (ks : List Sx) (k : Nat) (h : k < ks.length) : Sx.formL (ks.take (k + 1)) = Sx.formL (ks.take k) ++ ks[k].form := by
 rw [List.take_succ_eq_append_getElem h, Sx.formL_append]
 simp [Sx.formL]
theorem eR (l h : Bool) (hi da : List UInt8) (ks : List Sx) : (Sx.mk l h hi da ks).form = if l then 40 :: (Sx.formL ks ++ [41]) else (if h then 91 :: (textL hi ++ [93]) else []) ++ textL da := by simp only [Sx.form]
theorem Sx.formL_take (ks : List Sx) (k : Nat) : (Sx.formL (ks.take k)).length ≤ (Sx.formL ks).length := by
 conv => rhs; rw [← List.take_append_drop k ks, Sx.formL_append]
 simp
theorem Sx.formL_mem {ks : List Sx} {k : Sx} (h : k ∈ ks) : k.form.length ≤ (Sx.formL ks).length := by
  induction ks with
  | nil => cases h
  | cons a r ih => rcases List.mem_cons.1 h with rfl | h
                   · simp only [Sx.formL, List.length_append]; omega
                   · have := ih h; simp only [Sx.formL, List.length_append]; omega
def OutP (l : List UInt8) (w : World) (e : Ending) (w' : World) : Prop := ∃ v, e = .returned v ∧ OwnB w' w.heap.size v l ∧ Below w.heap.size w w'
theorem iq {B : Nat} {w0 w w' : World} {row : Option Nat} (h : Below B w0 w) (hg : w.grownBy w' row) (ah : ∀ k, row = some k → B ≤ k) (hB : B ≤ w.heap.size) : Below B w0 w' :=
 h.grown hg hB ah
theorem g8 (a : Option Addr) (n c : Nat) (l : List UInt8) (w : World) (hs : Sl w a n c l) (hn : n ≤ 70368744177664) :
  Calls Tryz.prog 46 #[.slice a n c] w (OutP (textL l) w) := by
 have hl := hs.1
 have HS := I5 hs
 have HL := I5 hl
 have hk := jM (n : Int) (by omega)
 obtain ⟨d, hd⟩ : ∃ d, d = numL n := ⟨_, rfl⟩
 rw [← hd] at hk
 have HD := I5 hd
 clear hs hl hd
 go_enter Tryz.func46, Tryz.ntmps46
 go_wp2_with fail
 refine (za n n (by omega) (by omega) _).mono ?_
 rintro e w1 ⟨rfl, af⟩
 rw [← HD.out]
 obtain ⟨v2, w2, EE, kS, aK⟩ := ip w1 ⟨d.toArray⟩ (by simp [ByteArray.size]; omega)
 have xH := I5 kS
 have mO := af.trans (aK.mono af.size)
 have z1 := af.size
 have z2 := aK.size
 clear kS
 go_upto_region 2 with (refine aV rfl _ _ rfl (l := d) rfl (OwnG.alloc xH.out _) (l2 := [58]) rfl (fB _ 58 _ rfl) (by simp; omega) (by simp; omega) ?_; intro v3 w3 fj hg3)
 have xG := iq (mO.alloc (by omega) _) hg3 (fun k hk => Nat.le_trans z1 ((OwnG.lt xH.out) k hk).1) (by simp; omega)
 have zY := I5 fj
 have z3 := hg3.size
 simp only [World.size_alloc] at z3
 clear fj hg3
 go_wp2_with (refine aV rfl _ _ rfl rfl zY.out (l2 := l) rfl (HS.out.after xG) (by simp; omega) (by omega) ?_; intro v4 w4 ho4 Dy)
 have H4 := iq xG Dy (fun k hk => Nat.le_trans z1 ((OwnG.lt zY.out) k hk).1) (by omega)
 go_ret
 refine ⟨v4, rfl, ?_, H4⟩
 have := OwnB.le ho4 z1
 rwa [show d ++ [58] ++ l = textL l by unfold textL; rw [HD.out, HL.out]; simp] at this
theorem Box.grown {w w' : World} {g : Nat} {T : TypeId} {cs : Array Value} (h : Box w g T cs) {row : Option Nat} (hg : w.grownBy w' row) (gj : ∀ k, row = some k → g ≠ k) : Box w' g T cs :=
 (hg.block g h.lt (fun e => gj g e.symm rfl)).trans h
theorem OwnB.empty (w : World) (B : Nat) (hB : B ≤ w.heap.size) : OwnB (w.alloc (.cells #[] 5)) B (.slice (some ⟨w.heap.size, 0, none⟩) 0 0) [] := by
 have := OwnG.new w B 1 hB #[] 5 0 0 (Nat.le_refl _) (Nat.zero_le _) rfl
 simpa [OwnB, Lib.byteCells] using this
theorem OwnB.alloc {w : World} {B : Nat} {v : Value} {l : List UInt8} (h : OwnB w B v l) (o : Obj) : OwnB (w.alloc o) B v l := OwnG.alloc h o
theorem eM {w w1 w2 : World} {v : Value} {l : List UInt8} (hb : Below w.heap.size w w1) (ho : OwnB w1 (w.heap.size + 1) v l) (hg : w1.grownBy w2 v.ownBlock) :
  Below w.heap.size w w2 ∧ (∀ T cs, Box w1 w.heap.size T cs → Box w2 w.heap.size T cs) ∧ w1.heap.size ≤ w2.heap.size :=
 ⟨iq hb hg (fun k hk => by have := (ho.own k hk).1; omega) hb.size, fun T cs hx => hx.grown hg (fun k hk => by have := (ho.own k hk).1; omega), hg.size⟩
theorem wM (s : Sx) : ∀ (v : SV) (w : World), Rd w v s → s.form.length ≤ 70368744177664 → Calls Tryz.prog 25 #[v.val] w (OutP s.form w) := by
 induction s using Sx.ind with
 | h l hh hi da ks ih =>
 intro v w hr dh
 have pd := I5 hr
 obtain ⟨eQ, fK, an, aO, hn, ie, ea, K, ah, hk⟩ := hr.parts
 obtain ⟨vl, vh, a1, n1, k1, a2, n2, k2, a3, n3, k3⟩ := v
 dsimp only at hn ie ea ah hk eQ fK an aO
 obtain rfl : vl = l := eQ
 obtain rfl : vh = hh := fK
 replace hn : n3 = ks.length := hn
 replace an : Sl w a1 n1 k1 hi := an
 replace aO : Sl w a2 n2 k2 da := aO
 replace hk : ∀ i (hi : i < ks.length), RdI (fun _ => True) w (K i) ks[i] := hk
 obtain ⟨l1, ja⟩ : ∃ l1, l1 = hi := ⟨_, rfl⟩
 have ig := an.1
 have gk := aO.1
 have yL := an.2.1
 have BA := aO.2.1
 have jV := an.2.2.1
 have pZ := aO.2.2.1
 have IH := I5 ih
 have HK := I5 hk
 have HR := I5 ah
 have fL := I5 an
 have mJ := I5 aO
 have ep := I5 ig
 have iu := I5 gk
 clear ih hk ah hr an aO ig gk ja
 subst hn
 unfold maxLen at ea jV pZ
 cases vl with
 | true =>
  rw [eR, if_pos rfl] at dh ⊢
  have Ft := I5 dh
  simp only [List.length_cons, List.length_append, List.length_nil] at dh
  let v0 := ((w.alloc (.cells #[.bool true, .bool vh, .slice a1 n1 k1, .slice a2 n2 k2, .slice a3 ks.length k3] 32)).alloc (.cells #[] 5))
  have au : Below w.heap.size w v0 := ((Below.refl _ _).alloc (Nat.le_refl _) _).alloc (by simp [v0, v0]) _
  have cw : Box v0 w.heap.size 32 #[.bool true, .bool vh, .slice a1 n1 k1, .slice a2 n2 k2, .slice a3 ks.length k3] := (Box.new w 32 #[.bool true, .bool vh, .slice a1 n1 k1, .slice a2 n2 k2, .slice a3 ks.length k3]).alloc _
  have nK : OwnB v0 (w.heap.size + 1) (.slice (some ⟨w.heap.size + 1, 0, none⟩) 0 0) [] := by
   have := OwnB.empty (w.alloc (.cells #[.bool true, .bool vh, .slice a1 n1 k1, .slice a2 n2 k2, .slice a3 ks.length k3] 32)) (w.heap.size + 1) (by simp)
   simpa [v0] using this
  have zz : w.heap.size + 1 + 1 ≤ v0.heap.size := by simp [v0, v0]
  show Calls _ _ #[.agg #[.bool true, .bool vh, .slice a1 n1 k1, .slice a2 n2 k2, .slice a3 ks.length k3]] _ _
  go_enter Tryz.func25, Tryz.ntmps25
  go_upto_region 2 with fail
  change Code.wp _ _ _ _ v0
  clear_value v0
  have HO := I5 nK
  clear nK
  have c0 := cw.cell 0 rfl
  go_upto_region 4 with (refine aV rfl _ _ rfl rfl (HO.out.alloc _) (l2 := [40]) rfl (fB _ 40 _ rfl) (by simp) (by simp; omega) ?_; intro v1 w1 ho1 m7)
  obtain ⟨af, wv, z1⟩ := eM (au.alloc (by omega) _) (HO.out.alloc _) m7
  have jV := wv _ _ (cw.alloc _)
  clear wv m7 HO c0 cw au
  have HO := I5 ho1
  clear ho1
  simp only [World.size_alloc] at z1
  have c4 := jV.cell 4 rfl
  go_wp2_with fail
  go_loopw [3, 4, 14] (fun s i k wr => ∃ n : Nat, n ≤ ks.length ∧ k = .int .i64 n ∧ OwnB wr (w.heap.size + 1) s (40 :: Sx.formL (ks.take n)) ∧ Below w.heap.size w wr ∧ w.heap.size + 1 ≤ wr.heap.size ∧ Box wr w.heap.size 32 #[.bool true, .bool vh, .slice a1 n1 k1, .slice a2 n2 k2, .slice a3 ks.length k3]) (fun _ _ k _ => ks.length - (intOf k).toNat)
  case atStart => exact ⟨0, Nat.zero_le _, rfl, HO.out, af, by omega, jV⟩
  case round =>
   clear HO af jV c4 z1
   rename_i s0 k0 _ _
   obtain ⟨n, AB, rfl, ho, hb, hz, hx⟩ := hrel
   have HO := I5 ho
   clear ho
   have c4 := hx.cell 4 rfl
   have kC := Sx.formL_take ks n
   by_cases aJ : n < ks.length
   ·obtain ⟨b, o, rfl, a8⟩ := (HR.out.after hb).range aJ
    have HL := I5 a8
    have kD := (HK.out n aJ).after hb
    have HRd := I5 kD
    have cH := Sx.formL_mem (List.getElem_mem aJ)
    have uq := Sx.formL_snoc ks n aJ
    have lq : (Sx.formL (ks.take (n + 1))).length ≤ (Sx.formL ks).length := Sx.formL_take ks (n + 1)
    rw [uq, List.length_append] at lq
    have HS := I5 uq
    clear kD a8 uq
    go_wp2_with (refine aY rfl _ rfl b _ rfl _ HL.out ?_)
    refine (IH.out _ (List.getElem_mem aJ) _ _ HRd.out (by omega)).mono ?_
    rintro e w2 ⟨v2, rfl, kS, aK⟩
    obtain ⟨a2', c2', rfl, aO⟩ := kS.sl
    have HS2' := I5 aO
    have z2 := aK.size
    have HB := hb.trans (aK.mono hb.size)
    have HX := hx.after aK
    have xH := I5 (HO.out.after aK)
    clear aO HO c4 kS
    go_upto_region 8 with (refine aV rfl _ _ rfl rfl xH.out (l2 := (ks[n].form)) rfl (HS2'.out) (by simp only [List.length_cons]; omega) (by omega) ?_; intro v3 w3 fj hg3)
    obtain ⟨bK, um, z3⟩ := eM HB xH.out hg3
    have yx := um _ _ HX
    clear um hg3 xH HB HX aK hx hb
    have zY := I5 fj
    clear fj
    go_wp2_with fail
    go_roundw
    case rel => exact ⟨n + 1, by omega, by go_num, by have := zY.out; rw [HS.out]; simpa using this, bK, by omega, yx⟩
    case measure => simp [intOf]; omega
   ·have ly : n = ks.length := by omega
    subst ly
    rw [List.take_length] at HO
    go_wp2_with (refine aV rfl _ _ rfl rfl (HO.out.alloc _) (l2 := [41]) rfl (fB _ 41 _ rfl) (by simp only [List.length_cons]; omega) (by simp; omega) ?_; intro v3 w3 fj hg3)
    obtain ⟨bK, um, z3⟩ := eM (hb.alloc (by omega) _) (HO.out.alloc _) hg3
    go_ret
    exact ⟨v3, rfl, OwnB.le (by simpa using fj) (Nat.le_succ _), bK⟩
 | false =>
  rw [eR, if_neg (by simp)] at dh ⊢
  have Ft := I5 dh
  have ig : n1 ≤ hi.length := Nat.le_of_eq ep.out
  have gk : n2 ≤ da.length := Nat.le_of_eq iu.out
  have hn1' : hi.length ≤ n1 := Nat.le_of_eq ep.out.symm
  have hn2' : da.length ≤ n2 := Nat.le_of_eq iu.out.symm
  cases vh with
  | false =>
   simp only [Bool.false_eq_true, if_false, List.nil_append] at dh ⊢
   have mn : da.length ≤ (textL da).length := by simp [textL]; omega
   let v0 := ((w.alloc (.cells #[.bool false, .bool false, .slice a1 n1 k1, .slice a2 n2 k2, .slice a3 ks.length k3] 32)).alloc (.cells #[] 5))
   have au : Below w.heap.size w v0 := ((Below.refl _ _).alloc (Nat.le_refl _) _).alloc (by simp [v0, v0]) _
   have cw : Box v0 w.heap.size 32 #[.bool false, .bool false, .slice a1 n1 k1, .slice a2 n2 k2, .slice a3 ks.length k3] := (Box.new w 32 #[.bool false, .bool false, .slice a1 n1 k1, .slice a2 n2 k2, .slice a3 ks.length k3]).alloc _
   have nK : OwnB v0 (w.heap.size + 1) (.slice (some ⟨w.heap.size + 1, 0, none⟩) 0 0) [] := by
    have := OwnB.empty (w.alloc (.cells #[.bool false, .bool false, .slice a1 n1 k1, .slice a2 n2 k2, .slice a3 ks.length k3] 32)) (w.heap.size + 1) (by simp)
    simpa [v0] using this
   have zz : w.heap.size + 1 + 1 ≤ v0.heap.size := by simp [v0, v0]
   show Calls _ _ #[.agg #[.bool false, .bool false, .slice a1 n1 k1, .slice a2 n2 k2, .slice a3 ks.length k3]] _ _
   go_enter Tryz.func25, Tryz.ntmps25
   go_upto_region 2 with fail
   change Code.wp _ _ _ _ v0
   clear_value v0
   have HO := I5 nK
   clear nK
   have c0 := cw.cell 0 rfl
   have c1 := cw.cell 1 rfl
   have c3 := cw.cell 3 rfl
   go_wp2_with fail
   refine (g8 _ _ _ da _ (mJ.out.after au) (by omega)).mono ?_
   rintro e w6 ⟨v6, rfl, oP, hb6⟩
   obtain ⟨a6, c6, rfl, Cj⟩ := oP.sl
   have Fh := I5 Cj
   have z6 := hb6.size
   have FH := au.trans (hb6.mono au.size)
   have H9 := cw.after hb6
   have De := I5 (HO.out.after hb6)
   clear Cj oP
   go_wp2_with (refine aV rfl _ _ rfl rfl De.out (l2 := (textL da)) rfl (Fh.out) (by simp only [List.length_cons, List.length_append, List.length_nil] at dh ⊢; omega) (by omega) ?_; intro v7 w7 Ee Ey)
   obtain ⟨hb7, DV, z7⟩ := eM FH De.out Ey
   go_ret
   exact ⟨v7, rfl, OwnB.le (by simpa using Ee) (Nat.le_succ _), hb7⟩
  | true =>
   simp only [if_true] at dh ⊢
   have mn : da.length ≤ (textL da).length := by simp [textL]; omega
   have IF : hi.length ≤ (textL hi).length := by simp [textL]; omega
   simp only [List.length_cons, List.length_append, List.length_nil] at dh
   let v0 := ((w.alloc (.cells #[.bool false, .bool true, .slice a1 n1 k1, .slice a2 n2 k2, .slice a3 ks.length k3] 32)).alloc (.cells #[] 5))
   have au : Below w.heap.size w v0 := ((Below.refl _ _).alloc (Nat.le_refl _) _).alloc (by simp [v0, v0]) _
   have cw : Box v0 w.heap.size 32 #[.bool false, .bool true, .slice a1 n1 k1, .slice a2 n2 k2, .slice a3 ks.length k3] := (Box.new w 32 #[.bool false, .bool true, .slice a1 n1 k1, .slice a2 n2 k2, .slice a3 ks.length k3]).alloc _
   have nK : OwnB v0 (w.heap.size + 1) (.slice (some ⟨w.heap.size + 1, 0, none⟩) 0 0) [] := by
    have := OwnB.empty (w.alloc (.cells #[.bool false, .bool true, .slice a1 n1 k1, .slice a2 n2 k2, .slice a3 ks.length k3] 32)) (w.heap.size + 1) (by simp)
    simpa [v0] using this
   have zz : w.heap.size + 1 + 1 ≤ v0.heap.size := by simp [v0, v0]
   show Calls _ _ #[.agg #[.bool false, .bool true, .slice a1 n1 k1, .slice a2 n2 k2, .slice a3 ks.length k3]] _ _
   go_enter Tryz.func25, Tryz.ntmps25
   go_upto_region 2 with fail
   change Code.wp _ _ _ _ v0
   clear_value v0
   have HO := I5 nK
   clear nK
   have c0 := cw.cell 0 rfl
   have c1 := cw.cell 1 rfl
   go_upto_region 12 with (refine aV rfl _ _ rfl rfl (HO.out.alloc _) (l2 := [91]) rfl (fB _ 91 _ rfl) (by simp) (by simp; omega) ?_; intro v1 w1 ho1 m7)
   obtain ⟨af, wv, z1⟩ := eM (au.alloc (by omega) _) (HO.out.alloc _) m7
   have jV := wv _ _ (cw.alloc _)
   clear wv m7 HO c0 c1 cw au
   have HO := I5 ho1
   clear ho1
   simp only [World.size_alloc] at z1
   have c2 := jV.cell 2 rfl
   go_wp2_with fail
   refine (g8 _ _ _ hi _ (fL.out.after af) (by omega)).mono ?_
   rintro e w2 ⟨v2, rfl, kS, aK⟩
   obtain ⟨a2', c2', rfl, aO⟩ := kS.sl
   have HS2' := I5 aO
   have z2 := aK.size
   have HB := af.trans (aK.mono af.size)
   have HX := jV.after aK
   have xH := I5 (HO.out.after aK)
   clear aO HO c2 kS
   go_upto_region 13 with (refine aV rfl _ _ rfl rfl xH.out (l2 := (textL hi)) rfl (HS2'.out) (by simp only [List.length_cons, List.length_append, List.length_nil]; omega) (by omega) ?_; intro v3 w3 fj hg3)
   obtain ⟨bK, um, z3⟩ := eM HB xH.out hg3
   have yx := um _ _ HX
   clear um hg3 xH HB HX aK jV af
   have zY := I5 fj
   clear fj
   go_upto_region 14 with (refine aV rfl _ _ rfl rfl (zY.out.alloc _) (l2 := [93]) rfl (fB _ 93 _ rfl) (by simp only [List.length_cons, List.length_append, List.length_nil]; omega) (by simp; omega) ?_; intro v4 w4 ho4 Dy)
   obtain ⟨hb4, Ca, z4⟩ := eM (bK.alloc (by omega) _) (zY.out.alloc _) Dy
   have Do := Ca _ _ (yx.alloc _)
   clear Ca Dy zY yx bK
   have If := I5 ho4
   clear ho4
   simp only [World.size_alloc] at z4
   have c3 := Do.cell 3 rfl
   go_wp2_with fail
   refine (g8 _ _ _ da _ (mJ.out.after hb4) (by omega)).mono ?_
   rintro e w6 ⟨v6, rfl, oP, hb6⟩
   obtain ⟨a6, c6, rfl, Cj⟩ := oP.sl
   have Fh := I5 Cj
   have z6 := hb6.size
   have FH := hb4.trans (hb6.mono hb4.size)
   have H9 := Do.after hb6
   have De := I5 (If.out.after hb6)
   clear Cj oP
   go_wp2_with (refine aV rfl _ _ rfl rfl De.out (l2 := (textL da)) rfl (Fh.out) (by simp only [List.length_cons, List.length_append, List.length_nil] at dh ⊢; omega) (by omega) ?_; intro v7 w7 Ee Ey)
   obtain ⟨hb7, DV, z7⟩ := eM FH De.out Ey
   go_ret
   exact ⟨v7, rfl, OwnB.le (by simpa using Ee) (Nat.le_succ _), hb7⟩
def Sx.may (s : Sx) : Bool := s.clean && decide (s.nodes ≤ 512) && decide (s.deep ≤ 16) && decide (s.form.length ≤ 4096)
theorem jC {s : Sx} : ∀ {m : Nat}, s.wide m = false → m ≤ 60 ∧ s.ks.length ≤ 700 ∧ s.hi.length ≤ 5000 ∧ s.da.length ≤ 5000 ∧ ∀ k ∈ s.ks, k.wide (m + 1) = false := by
 intro m h
 obtain ⟨l, hh, hi, da, ks⟩ := s
 rw [eL] at h
 simp only [Bool.or_eq_false_iff, decide_eq_false_iff_not] at h
 obtain ⟨⟨⟨⟨h1, h2⟩, h3⟩, h4⟩, h5⟩ := h
 refine ⟨by omega, by simp only [Sx.ks]; omega, by simp only [Sx.hi]; omega, by simp only [Sx.da]; omega, fun k hk => ?_⟩
 by_cases e : k.wide (m + 1) = true
 ·rw [Sx.wideL_yes (ks := ks) hk e] at h5; cases h5
 ·simpa using e
theorem wS {ks : List Sx} {n : Nat} (h : ∀ k ∈ ks, k.deep ≤ n) : Sx.deepL ks ≤ n := by
 induction ks with
 | nil => simp [Sx.deepL]
 | cons a r ih => have h1 := h a List.mem_cons_self; have h2 := ih (fun k hk => h k (List.mem_cons_of_mem _ hk)); simp only [Sx.deepL]; omega
theorem nS (s : Sx) : ∀ m, s.wide m = false → s.deep + m ≤ 61 := by
 induction s using Sx.ind with
 | h l hh hi da ks ih =>
  intro m h
  obtain ⟨h1, _, _, _, h2⟩ := jC h
  have : Sx.deepL ks ≤ 60 - m := wS fun k hk => by have := ih k hk (m + 1) (h2 k hk); omega
  simp only [Sx.deep]
  split <;> omega
theorem wN {ks : List Sx} (h : ∀ k ∈ ks, k.form.length ≤ 10100 * k.nodes) : (Sx.formL ks).length ≤ 10100 * Sx.nodesL ks := by
 induction ks with
 | nil => simp [Sx.formL]
 | cons a r ih => have h1 := h a List.mem_cons_self; have h2 := ih (fun k hk => h k (List.mem_cons_of_mem _ hk)); simp only [Sx.formL, Sx.nodesL, List.length_append]; omega
theorem kT (s : Sx) : ∀ m, s.wide m = false → s.form.length ≤ 10100 * s.nodes := by
 induction s using Sx.ind with
 | h l hh hi da ks ih =>
  intro m h
  obtain ⟨h1, _, h3, h4, h2⟩ := jC h
  simp only [Sx.hi, Sx.da] at h3 h4
  have := wN fun k hk => ih k hk (m + 1) (h2 k hk)
  have e1 := iz hi (by omega)
  have e2 := iz da (by omega)
  rw [eR]
  simp only [Sx.nodes]
  cases l <;> cases hh <;> simp <;> omega
theorem lU (s : Sx) (v : SV) (w : World) (hr : Rd w v s) (hn : s.nodes < 4611686018427387904) (hd : s.deep ≤ 4611686018427387904) (hf : s.nodes ≤ 512 → s.form.length ≤ 70368744177664) : Calls Tryz.prog 28 #[v.val] w fun e w' => e = .returned (.bool s.may) ∧ Below w.heap.size w w' := by
 obtain ⟨vl, vh, a1, n1, k1, a2, n2, k2, a3, n3, k3⟩ := v
 have pd := I5 hr
 clear hr
 obtain ⟨cl, gS⟩ : ∃ cl, cl = s.clean := ⟨_, rfl⟩
 have zZ := I5 gS
 have HM : Hid (s.may = (cl && decide (s.nodes ≤ 512) && decide (s.deep ≤ 16) && decide (s.form.length ≤ 4096))) := I5 (by rw [gS]; rfl)
 have qG := I5 (fun w h => uX s ⟨vl, vh, a1, n1, k1, a2, n2, k2, a3, n3, k3⟩ w h)
 rw [← gS] at qG
 clear gS
 have au : Below w.heap.size w (w.alloc (.cells #[.bool vl, .bool vh, .slice a1 n1 k1, .slice a2 n2 k2, .slice a3 n3 k3] 32)) := (Below.refl _ _).alloc (Nat.le_refl _) _
 have cw := I5 (Box.new w 32 #[.bool vl, .bool vh, .slice a1 n1 k1, .slice a2 n2 k2, .slice a3 n3 k3])
 have FV : wrap64 (s.nodes : Int) = s.nodes := n4 _ (by omega)
 have qF := I5 (fun w h => nC s ⟨vl, vh, a1, n1, k1, a2, n2, k2, a3, n3, k3⟩ w h)
 rw [FV] at qF
 clear FV
 have xC := I5 (fun w h => wR s ⟨vl, vh, a1, n1, k1, a2, n2, k2, a3, n3, k3⟩ w h hd)
 have Ab := I5 (fun w h hf => wM s ⟨vl, vh, a1, n1, k1, a2, n2, k2, a3, n3, k3⟩ w h hf)
 have HF := I5 hf
 clear hf
 obtain ⟨N, hN⟩ : ∃ N, N = s.nodes := ⟨_, rfl⟩
 obtain ⟨D, hD⟩ : ∃ D, D = s.deep := ⟨_, rfl⟩
 obtain ⟨fl, Gk⟩ : ∃ fl, fl = s.form := ⟨_, rfl⟩
 rw [← hN] at qF HM HF hn
 rw [← hD] at xC HM hd
 rw [← Gk] at Ab HM HF
 clear hN hD Gk
 show Calls _ _ #[.agg #[.bool vl, .bool vh, .slice a1 n1 k1, .slice a2 n2 k2, .slice a3 n3 k3]] _ _
 cases cl with
 | false =>
  go_enter Tryz.func28, Tryz.ntmps28
  go_wp2_with (refine ab rfl 32 _ rfl cw.out (by rfl) Tryz.underlying32 rfl (by kernel_rfl) ?_)
  refine (qG.out _ (pd.out.after au)).mono ?_
  rintro e w1 ⟨rfl, af⟩
  have er := au.trans (af.mono au.size)
  go_wp2_with fail
  go_ret
  exact ⟨by rw [HM.out]; rfl, er⟩
 | true =>
  by_cases h2 : N ≤ 512
  ·have h2' : (N : Int) ≤ 512 := by omega
   by_cases h3 : D ≤ 16
   ·have h3' : (D : Int) ≤ 16 := by omega
    go_enter Tryz.func28, Tryz.ntmps28
    go_wp2_with (refine ab rfl 32 _ rfl cw.out (by rfl) Tryz.underlying32 rfl (by kernel_rfl) ?_)
    refine (qG.out _ (pd.out.after au)).mono ?_
    rintro e w1 ⟨rfl, af⟩
    have er := au.trans (af.mono au.size)
    have jV := I5 (cw.out.after af)
    go_wp2_with (refine ab rfl 32 _ rfl jV.out (by rfl) Tryz.underlying32 rfl (by kernel_rfl) ?_)
    refine (qF.out _ (pd.out.after er)).mono ?_
    rintro e w2 ⟨rfl, aK⟩
    have mP := er.trans (aK.mono er.size)
    have pZ := I5 (jV.out.after aK)
    go_wp2_with (refine ab rfl 32 _ rfl pZ.out (by rfl) Tryz.underlying32 rfl (by kernel_rfl) ?_)
    refine (xC.out _ (pd.out.after mP)).mono ?_
    rintro e w3 ⟨rfl, bK⟩
    have Bo := mP.trans (bK.mono mP.size)
    have yx := I5 (pZ.out.after bK)
    go_wp2_with (refine ab rfl 32 _ rfl yx.out (by rfl) Tryz.underlying32 rfl (by kernel_rfl) ?_)
    refine (Ab.out _ (pd.out.after Bo) (HF.out h2)).mono ?_
    rintro e w4 ⟨v4, rfl, ho4, hb4⟩
    obtain ⟨a4, c4, rfl, Ds⟩ := ho4.sl
    have Iq := Bo.trans (hb4.mono Bo.size)
    clear Ds ho4
    go_wp2_with fail
    go_ret
    exact ⟨by
     rw [HM.out, decide_eq_true h2, decide_eq_true h3]
     show Ending.returned (.bool (decide ((fl.length : Int) ≤ 4096))) = _
     rw [show decide ((fl.length : Int) ≤ 4096) = decide (fl.length ≤ 4096) from decide_eq_decide.2 (by omega)]
     rfl, Iq⟩
   ·have h3' : ¬ (D : Int) ≤ 16 := by omega
    go_enter Tryz.func28, Tryz.ntmps28
    go_wp2_with (refine ab rfl 32 _ rfl cw.out (by rfl) Tryz.underlying32 rfl (by kernel_rfl) ?_)
    refine (qG.out _ (pd.out.after au)).mono ?_
    rintro e w1 ⟨rfl, af⟩
    have er := au.trans (af.mono au.size)
    have jV := I5 (cw.out.after af)
    go_wp2_with (refine ab rfl 32 _ rfl jV.out (by rfl) Tryz.underlying32 rfl (by kernel_rfl) ?_)
    refine (qF.out _ (pd.out.after er)).mono ?_
    rintro e w2 ⟨rfl, aK⟩
    have mP := er.trans (aK.mono er.size)
    have pZ := I5 (jV.out.after aK)
    go_wp2_with (refine ab rfl 32 _ rfl pZ.out (by rfl) Tryz.underlying32 rfl (by kernel_rfl) ?_)
    refine (xC.out _ (pd.out.after mP)).mono ?_
    rintro e w3 ⟨rfl, bK⟩
    have Bo := mP.trans (bK.mono mP.size)
    go_wp2_with fail
    go_ret
    exact ⟨by rw [HM.out, decide_eq_true h2, decide_eq_false h3]; rfl, Bo⟩
  ·have h2' : ¬ (N : Int) ≤ 512 := by omega
   go_enter Tryz.func28, Tryz.ntmps28
   go_wp2_with (refine ab rfl 32 _ rfl cw.out (by rfl) Tryz.underlying32 rfl (by kernel_rfl) ?_)
   refine (qG.out _ (pd.out.after au)).mono ?_
   rintro e w1 ⟨rfl, af⟩
   have er := au.trans (af.mono au.size)
   have jV := I5 (cw.out.after af)
   go_wp2_with (refine ab rfl 32 _ rfl jV.out (by rfl) Tryz.underlying32 rfl (by kernel_rfl) ?_)
   refine (qF.out _ (pd.out.after er)).mono ?_
   rintro e w2 ⟨rfl, aK⟩
   have mP := er.trans (aK.mono er.size)
   go_wp2_with fail
   go_ret
   exact ⟨by rw [HM.out, decide_eq_false h2]; rfl, mP⟩
section
variable {P : Program} {ops : Array Oper} {Q : Exit → Act → World → Prop} {md : Region.Mode} {S : World → Prop}
theorem mR {o : Oper} {a : Act} {w : World} {K : Act → World → Prop} (ty : TypeId) (x y : Operand) (ho : o.op = .store ty x y)
  {b off : Nat} {k : IntKind} {n : Int} (hx : a.eval x = .pointer (some ⟨b, off, none⟩)) (hy : a.eval y = .int k n) {u : Value} (hc : w.cell? ⟨b, off, none⟩ = some u) (hf : w.frozen? ⟨b, off, none⟩ = false) (hz : ∀ w, (sizeOf ty).run P w = .ok 1 w)
  (h : K (a.put o.dst undef) (w.setCell ⟨b, off, none⟩ (.int k n))) : o.wp P a w K Q := by
 unfold Oper.wp execOp
 simp only [ho, hx, hy]
 simp [go_sem, hz, hc, hf]
 exact h
theorem ni (i : Nat) {oi : Oper} {tl : List Oper} {fuel : Nat} {listed : Array Bool} {a : Act} {w : World} (hB : Keeps S) (hi : ops.toList.drop i = oi :: tl)
  (hs : Region.noSelect ops = true) (hf : Region.free md ops listed i = true) (hr : (Region.ready md ops listed).contains i = true) (dR : Region.wanted oi (yielded ops a.tmps) = true)
  (hQ : ∀ c a w v, Q (.panic c) (a.put oi.dst v) w → Q (.panic c) a w) (f : FuncId) (args : Array Value) (rH : ∀ w, (execOp a.eval oi).run P w = .ok (.enter f args) w) (v : Value)
  (hc : ∀ w, S w → Calls P f args w fun e w' => e = .returned v ∧ Below w.heap.size w w')
  (h : wpU P md ops Q S fuel (listed.setIfInBounds i true) (a.put oi.dst v) w) : wpU P md ops Q S (fuel + 1) listed a w :=
 f8 (bB hi) (Region.noSelect_spec hs) (fun c a w => hQ c a w v) hB fuel listed a w (Region.free_spec (bB hi) hf) (by simpa using hr)
  (.inl ⟨dR, fun w hw => by rw [rH w]; exact ⟨rfl, hc w hw⟩⟩) h
end
end Go.Proofs.YtmmkaclmgnpplaaGreatDoor

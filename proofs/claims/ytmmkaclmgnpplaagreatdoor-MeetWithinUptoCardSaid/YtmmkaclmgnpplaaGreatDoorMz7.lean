import Derived.Test.YtmmkaclmgnpplaaGreatDoorMz6
import Derived.Deep.QuietTactic
import Derived.BigQuiet
import Derived.WalkLawsBesides
import Derived.WalkSmall
import Derived.ChangeSlices
import Derived.WideShapes
import Derived.Deep.Slices
set_option maxRecDepth 100000
set_option maxHeartbeats 64000000
set_option linter.unusedSimpArgs false
set_option linter.unusedVariables false
namespace Go.Proofs.YtmmkaclmgnpplaaGreatDoor
open Go.RowKit
def newsK (K : Nat → SV) : Nat → List Value
 | 0 => []
 | n + 1 => newsK K n ++ (K n).cells.toList
theorem dQ (K : Nat → SV) (n : Nat) : (newsK K n).length = n * 5 := by
 induction n with
 | zero => rfl
 | succ n ih => simp only [newsK, List.length_append, ih]; rw [Array.length_toList, SV.cells_size]; omega
theorem pT (K : Nat → SV) (n i j : Nat) (hi : i < n) (hj : j < 5) : (newsK K n)[i * 5 + j]? = (K i).cells[j]? := by
 induction n with
 | zero => omega
 | succ n ih =>
  simp only [newsK]
  by_cases h : i < n
  ·rw [List.getElem?_append_left (by rw [dQ]; omega), ih h]
  ·obtain rfl : i = n := by omega
   rw [List.getElem?_append_right (by rw [dQ]; omega), dQ, Nat.add_sub_cancel_left]
   simp
theorem hJ {K K' : Nat → SV} {n : Nat} (h : ∀ i, i < n → K i = K' i) : newsK K n = newsK K' n := by
 induction n with
 | zero => rfl
 | succ n ih => simp only [newsK]; rw [ih (fun i hi => h i (by omega)), h n (by omega)]
theorem ge (K : Nat → SV) (n : Nat) : ∀ u ∈ newsK K n, u.oneCell' = true := by
 induction n with
 | zero => intro u hu; cases hu
 | succ n ih =>
  intro u hu
  simp only [newsK, List.mem_append] at hu
  rcases hu with hu | hu
  ·exact ih u hu
  ·exact (Array.all_eq_true_iff_forall_mem.1 (SV.one (K n))) u (by simpa using hu)
theorem pS {w : World} {b o n c : Nat} {K : Nat → SV} (h : RowAt w (some ⟨b, o, none⟩) n c K) : ∀ j u, (newsK K n)[j]? = some u → w.cell? ((⟨b, o, none⟩ : Addr).add j) = some u := by
 intro j u hu
 have aJ : j < n * 5 := by rw [← dQ K n]; exact (List.getElem?_eq_some_iff.1 hu).1
 have e : j = j / 5 * 5 + j % 5 := by omega
 rw [e, pT K n _ _ (by omega) (by omega)] at hu
 rw [Addr.add_mid]
 have := h.rangeA (i := j / 5) (by omega) (j % 5) u (by simpa using hu)
 rwa [show o + j / 5 * 5 + j % 5 = o + j by omega] at this
theorem OwnG.row {w : World} {B n : Nat} {v : Value} {K : Nat → SV} (h : OwnG w B 5 v n (newsK K n)) : ∃ a c, v = .slice a n c ∧ RowAt w a n c K ∧ InB (fun k => B ≤ k) a n := by
 rcases h.2 with ⟨rfl, rfl⟩ | ⟨g, o, cap, rfl, h3, h4, h5, h6, h7, h8⟩
 ·exact ⟨none, 0, rfl, ⟨Nat.le_refl _, Nat.zero_le _, fun _ => rfl, .inl rfl⟩, .inl rfl⟩
 ·refine ⟨_, _, rfl, ⟨h5, h6, (fun h => by cases h), .inr ⟨g, o, rfl, fun i hi j u hu => ?_⟩⟩, .inr fun b o' s e => by cases e; exact h3⟩
  have hj : j < 5 := by rw [← SV.cells_size (K i)]; exact (Array.getElem?_eq_some_iff.1 hu).1
  have := h8 (i * 5 + j) u (by rw [pT K n i j hi hj]; exact hu)
  rwa [← Nat.add_assoc] at this
theorem Aq : (Tryz.prog.info? 32).map (fun i => (i.zero, i.size, i.bytes)) = some (some SV.nil.val, 5, 80) := by kernel_rfl
theorem t7 : SV.nil.val.cells.size = 5 := rfl
theorem fO {o : Oper} {a : Act} {w : World} {B n : Nat} {v : Value} {xs : List Value} {K : Act → World → Prop} {Q : Exit → Act → World → Prop} (s x : Operand)
  (ho : o.op = .call { callee := .builtin .append, args := #[s, x], argTypes := #[30, 30] })
  (hs : a.eval s = v) (h : OwnG w B 5 v n xs) {m : Nat} {news : List Value} {xv : Value} (hx : a.eval x = xv) (lk : Src Tryz.prog 5 30 xv m news w) (hn : n + m ≤ 1000000) (hB : B ≤ w.heap.size)
  (hk : ∀ v' w', OwnG w' B 5 v' (n + m) (xs ++ news) → w.grownBy w' v.ownBlock → (∀ k, v'.ownBlock = some k → v.ownBlock = some k ∨ w.heap.size ≤ k) → K (a.put o.dst v') w') : o.wp Tryz.prog a w K Q := by
 obtain ⟨i0, hi, o5⟩ := Option.map_eq_some_iff.1 Aq
 simp only [Prod.mk.injEq] at o5
 obtain ⟨mg, uj, m3⟩ := o5
 exact gW s x 30 30 ho 32 i0 SV.nil.val 80 Tryz.underlying30 hi mg uj m3 t7 (by decide) hs h _ hx m news lk (by unfold maxLen; omega) (by omega) hB hk
theorem bw {ops : Array Oper} {rest : List Oper} {o : Oper} {a : Act} {w : World} {B n : Nat} {v : Value} {xs : List Value} {Q : Exit → Act → World → Prop} (dR : o.guard = none) (s x : Operand)
  (ho : o.op = .call { callee := .builtin .append, args := #[s, x], argTypes := #[30, 30] })
  (hs : a.eval s = v) (h : OwnG w B 5 v n xs) {m : Nat} {news : List Value} {xv : Value} (hx : a.eval x = xv) (lk : Src Tryz.prog 5 30 xv m news w) (hn : n + m ≤ 1000000) (hB : B ≤ w.heap.size)
  (hk : ∀ v' w', OwnG w' B 5 v' (n + m) (xs ++ news) → w.grownBy w' v.ownBlock → (∀ k, v'.ownBlock = some k → v.ownBlock = some k ∨ w.heap.size ≤ k) → wpList Tryz.prog ops Q rest (a.put o.dst v') w') : wpList Tryz.prog ops Q (o :: rest) a w :=
 wpList_plain dR fun _ hK => fO s x ho hs h hx lk hn hB fun v' w' h1 h2 h3 => hK _ _ (hk v' w' h1 h2 h3)
def RowP (n : Nat) (K : Nat → SV) (w : World) (e : Ending) (w' : World) : Prop := ∃ a c, e = .returned (.slice a n c) ∧ RowAt w' a n c K ∧ InB (fun k => w.heap.size ≤ k) a n ∧ Below w.heap.size w w'
theorem sf (a : Option Addr) (n c : Nat) (K : Nat → SV) (w : World) (hr : RowAt w a n c K) (hn : n ≤ 1000) : Calls Tryz.prog 105 #[.slice a n c] w (RowP n K w) := by
 cases a with
 | none =>
  have hc := hr.2.2.1 rfl
  have td := hr.1
  obtain rfl : n = 0 := by omega
  subst hc
  clear td hn
  have ly : ∀ W, (binOp .eql 30 (.slice none 0 0) (.slice none 0 0)).run Tryz.prog W = .ok (.bool true) W := fun _ => rfl
  go_enter Tryz.func105, Tryz.ntmps105
  go_wp2_with fail
  go_ret
  exact ⟨none, 0, rfl, ⟨Nat.le_refl _, Nat.zero_le _, fun _ => rfl, .inl rfl⟩, .inl rfl, Below.refl _ _⟩
 | some ad =>
  have ly : ∀ W, (binOp .eql 30 (.slice (some ad) n c) (.slice none 0 0)).run Tryz.prog W = .ok (.bool false) W := fun _ => rfl
  have au : Below w.heap.size w (w.alloc (.cells #[] 32)) := (Below.refl _ _).alloc (Nat.le_refl _) _
  have nK : OwnG (w.alloc (.cells #[] 32)) w.heap.size 5 (.slice (some ⟨w.heap.size, 0, none⟩) 0 0) 0 [] := OwnG.new w w.heap.size 5 (Nat.le_refl _) #[] 32 0 0 (Nat.le_refl _) (Nat.zero_le _) rfl
  have lk : Src Tryz.prog 5 30 (.slice (some ad) n c) n (newsK K n) (w.alloc (.cells #[] 32)) := by
   refine Src.ofSlice _ Tryz.underlying30 ad n c _ (dQ K n) ?_ (ge K n)
   have hr' := hr.after au
   rcases hr'.2.2.2 with h0 | ⟨b, o, e, h4⟩
   ·subst h0
    intro j u hu
    simp [newsK] at hu
   ·cases e
    exact pS hr'
  have HO := I5 nK
  have HS := I5 lk
  clear nK lk hr
  go_enter Tryz.func105, Tryz.ntmps105
  go_wp2_with (refine bw rfl _ _ rfl rfl HO.out rfl HS.out (by omega) (by simp) ?_; intro v2 w2 kS lm oO)
  rw [Nat.zero_add, List.nil_append] at kS
  obtain ⟨a', c', rfl, h5, h6⟩ := kS.row
  have hB := au.grown lm (by simp) (fun k hk => by cases hk; exact Nat.le_refl _)
  clear kS lm oO
  go_ret
  exact ⟨a', c', rfl, h5, h6, hB⟩
theorem gL {ok : Nat → Prop} {w : World} {a : Option Addr} {n c : Nat} {K : Nat → SV} {ks : List Sx} (h : RowAt w a n c K) (hi : InB ok a n) (hn : n = ks.length) (hk : ∀ i (hi : i < ks.length), RdI ok w (K i) ks[i]) : RdI ok w ⟨true, false, none, 0, 0, none, 0, 0, a, n, c⟩ (.mk true false [] [] ks) :=
 .mk _ [] [] ks K (Sl.nil w) (.inl rfl) (Sl.nil w) (.inl rfl) h hi hn hk
theorem Sl.some {w : World} {a : Option Addr} {len cap : Nat} {l : List UInt8} (h : Sl w a len cap l) (hl : 0 < len) : ∃ b o, a = Option.some ⟨b, o, none⟩ ∧ (∀ i, i < len → w.cell? ⟨b, o + i, none⟩ = Option.some (.int .u8 ((l.getD i 0).toNat : Int))) ∧ b < w.heap.size := by
 have aJ := h.lt
 rcases h.2.2.2.2 with h4 | ⟨b, o, rfl, h4⟩
 ·omega
 ·exact ⟨b, o, rfl, h4, aJ b o (by omega) rfl⟩
def isD (c : UInt8) : Prop := 48 ≤ c.toNat ∧ c.toNat ≤ 57
instance (c : UInt8) : Decidable (isD c) := by unfold isD; infer_instance
def lenScan (M : Nat) : Nat → List UInt8 → Option (Nat × Nat)
 | n, [] => some (n, 0)
 | n, c :: t => if isD c then (if M < 10 * n + (c.toNat - 48) then none else (lenScan M (10 * n + (c.toNat - 48)) t).map fun p => (p.1, p.2 + 1)) else some (n, 0)
def lenR (l : List UInt8) (at' : Int) (M : Nat) : Int × Int × Int :=
 if at' < 0 then (0, at', 1) else if (l.length : Int) ≤ at' then (0, at', 2) else
 if ¬ isD (l.getD at'.toNat 0) then (0, at', 3) else if l.getD at'.toNat 0 = 48 then (0, at' + 1, 0) else
 match lenScan M 0 (l.drop at'.toNat) with
 | none => (0, at', 4)
 | some (n, k) => (n, at' + k, 0)
def valA (a : Nat) (w : List UInt8) : Nat := w.foldl (fun a c => 10 * a + (c.toNat - 48)) a
theorem px (a : Nat) : valA a [] = a := by unfold valA; rw [List.foldl_nil]
theorem tG (a : Nat) (c : UInt8) (t : List UInt8) : valA a (c :: t) = valA (10 * a + (c.toNat - 48)) t := by unfold valA; rw [List.foldl_cons]
theorem tF (w : List UInt8) (a : Nat) (c : UInt8) : valA a (w ++ [c]) = 10 * valA a w + (c.toNat - 48) := by
 unfold valA; rw [List.foldl_append, List.foldl_cons, List.foldl_nil]
theorem qf {s : Sx} (h : s.great 0 = false) (hn : s.nodes < 4611686018427387904) : s.wide 0 = false ∧ s.nodes ≤ 2000 := by
 have hw : s.wide 0 = false := by
  by_cases e : s.wide 0 = true
  ·rw [fz e] at h; cases h
  ·simpa using e
 refine ⟨hw, ?_⟩
 rw [mr hw, n4 _ (by omega)] at h
 have := of_decide_eq_false h
 omega
theorem rM {s : Sx} (h : s.great 0 = false) (hn : s.nodes < 4611686018427387904) : s.deep ≤ 4611686018427387904 ∧ (s.nodes ≤ 512 → s.form.length ≤ 70368744177664) := by
 obtain ⟨h1, h2⟩ := qf h hn
 have := nS s 0 h1
 have := kT s 0 h1
 exact ⟨by omega, fun _ => by omega⟩
theorem j0 (a : Option Addr) (n c : Nat) (l : List UInt8) (a2 : Option Addr) (n2 c2 : Nat) (l2 : List UInt8) (w : World) (hs : Sl w a n c l) (aO : Sl w a2 n2 c2 l2) :
  Calls Tryz.prog 78 #[.slice a n c, .slice a2 n2 c2] w fun e w' => e = .returned (.bool (l == l2)) ∧ Below w.heap.size w w' := by
 have q1 := bv hs
 have q2 := bv aO
 obtain ⟨r, hr⟩ : ∃ r, r = (l == l2) := ⟨_, rfl⟩
 rw [← hr]
 have HR := hr.symm
 clear hs aO hr
 go_enter Tryz.func78, Tryz.ntmps78
 go_wp2_with fail
 go_ret
 exact ⟨rfl, Below.refl _ _⟩
def PairP (ks kt : List Sx) (K K2 : Nat → SV) (w : World) : Prop := ∀ i (h : i < ks.length) (h2 : i < kt.length) w', Below w.heap.size w w' → Calls Tryz.prog 106 #[(K i).val, (K2 i).val] w' fun e w'' => e = .returned (.bool (ks[i].same kt[i])) ∧ Below w'.heap.size w' w''
theorem uI (a : Option Addr) (n c : Nat) (K : Nat → SV) (ks : List Sx) (a2 : Option Addr) (m c2 : Nat) (K2 : Nat → SV) (kt : List Sx) (w : World) (hr : RowAt w a n c K) (oY : RowAt w a2 m c2 K2) (hn : n = ks.length) (gk : m = kt.length) (he : PairP ks kt K K2 w) :
  Calls Tryz.prog 127 #[.slice a n c, .slice a2 m c2, .func (.func 106) #[] #[]] w fun e w' => e = .returned (.bool (Sx.sameL ks kt)) ∧ Below w.heap.size w w' := by
 have HR := I5 hr
 have zX := I5 oY
 have HE := I5 he
 have HN := I5 hn
 have iu := I5 gk
 have ea := Nat.le_trans hr.1 hr.2.1
 have qb := Nat.le_trans oY.1 oY.2.1
 unfold maxLen at ea qb
 clear hr oY he hn gk
 by_cases dh : n = m
 case neg =>
  have HQ : Hid (Sx.sameL ks kt = false) := I5 (tL (by have := HN.out; have := iu.out; omega))
  have q4 : ((n : Int) == m) = false := by simp; omega
  have q5 : ((n : Int) != m) = true := by simp; omega
  clear dh
  go_enter Tryz.func127, Tryz.ntmps127
  go_wp2_with fail
  go_ret
  exact ⟨by rw [HQ.out]; rfl, Below.refl _ _⟩
 subst dh
 go_enter Tryz.func127, Tryz.ntmps127
 go_wp2_with fail
 go_loopw [17] (fun i wr => ∃ k : Nat, k ≤ n ∧ i = .int .i64 k ∧ Hid (Sx.sameL (ks.take k) (kt.take k) = true) ∧ Below w.heap.size w wr) (fun i _ => n - (intOf i).toNat)
 case atStart => exact ⟨0, Nat.zero_le _, rfl, I5 rfl, Below.refl _ _⟩
 case round =>
  obtain ⟨k, Dw, rfl, HC, hb⟩ := hrel
  by_cases aJ : k < n
  ·have g1 : k < ks.length := by have := HN.out; omega
   have g2 : k < kt.length := by have := iu.out; omega
   obtain ⟨b, o, rfl, _⟩ := HR.out.rangeB aJ
   obtain ⟨b2, o2, rfl, _⟩ := zX.out.rangeB aJ
   obtain ⟨ck, fT⟩ : ∃ ck, ck = ks[k].same kt[k] := ⟨_, rfl⟩
   have gQ := I5 fT
   have CE := I5 (fun w' hw => HE.out k g1 g2 w' hw)
   rw [← fT] at CE
   have Fu : Hid (∀ w', Below w.heap.size w w' → w'.rangeAt b (o + k * 5) (K k).cells.toList) := I5 fun w' hw => (HR.out.after hw).rangeA aJ
   have BK : Hid (∀ w', Below w.heap.size w w' → w'.rangeAt b2 (o2 + k * 5) (K2 k).cells.toList) := I5 fun w' hw => (zX.out.after hw).rangeA aJ
   obtain ⟨v1, ic⟩ : ∃ v1, v1 = K k := ⟨_, rfl⟩
   obtain ⟨v2, vq⟩ : ∃ v2, v2 = K2 k := ⟨_, rfl⟩
   rw [← ic] at Fu CE
   rw [← vq] at BK CE
   clear fT ic vq
   obtain ⟨vl1, vh1, p11, pn11, pc11, p12, pn12, pc12, p13, pn13, pc13⟩ := v1
   obtain ⟨vl2, vh2, p21, pn21, pc21, p22, pn22, pc22, p23, pn23, pc23⟩ := v2
   have zO := Fu.out wr hb
   go_upto_region 6 with (refine aY rfl _ rfl b _ rfl _ zO ?_; simp only [SV.val])
   let z1 := (wr.alloc (.cells #[.bool vl1, .bool vh1, .slice p11 pn11 pc11, .slice p12 pn12 pc12, .slice p13 pn13 pc13] 32))
   have hA : Below wr.heap.size wr z1 := (Below.refl _ _).alloc (Nat.le_refl _) _
   have X1 : Box z1 wr.heap.size 32 #[.bool vl1, .bool vh1, .slice p11 pn11 pc11, .slice p12 pn12 pc12, .slice p13 pn13 pc13] := Box.new _ _ _
   change Code.wp _ _ _ _ z1
   clear_value z1
   have Gu := BK.out z1 (hb.trans (hA.mono hb.size))
   go_upto_region 7 with (refine aY rfl _ rfl b2 _ rfl _ Gu ?_; simp only [SV.val])
   let z2 := (z1.alloc (.cells #[.bool vl2, .bool vh2, .slice p21 pn21 pc21, .slice p22 pn22 pc22, .slice p23 pn23 pc23] 32))
   have hB : Below z1.heap.size z1 z2 := (Below.refl _ _).alloc (Nat.le_refl _) _
   have Y2 : Box z2 z1.heap.size 32 #[.bool vl2, .bool vh2, .slice p21 pn21 pc21, .slice p22 pn22 pc22, .slice p23 pn23 pc23] := Box.new _ _ _
   have X2 := X1.after hB
   change Code.wp _ _ _ _ z2
   clear_value z2
   have m3 : Below w.heap.size w z2 := (hb.trans (hA.mono hb.size)).trans (hB.mono (Nat.le_trans hb.size hA.size))
   clear zO Gu hA hB X1 Fu BK
   have A8 := I5 X2
   have Gw := I5 Y2
   clear X2 Y2
   generalize wr.heap.size = y1 at *
   generalize z1.heap.size = y2 at *
   go_wp2_with first | (refine ab rfl 32 _ rfl A8.out (by rfl) Tryz.underlying32 rfl (by kernel_rfl) ?_) | (refine ab rfl 32 _ rfl Gw.out (by rfl) Tryz.underlying32 rfl (by kernel_rfl) ?_)
   refine (CE.out z2 m3).mono ?_
   rintro e w5 ⟨rfl, hb5⟩
   have GN := m3.trans (hb5.mono m3.size)
   clear hb5 A8 Gw
   cases ck with
   | false =>
    go_wp2_with fail
    go_ret
    exact ⟨by rw [vP k g1 g2 gQ.out.symm]; rfl, GN⟩
   | true =>
    go_wp2_with fail
    go_roundw
    case rel => exact ⟨k + 1, by omega, by go_num, I5 (by rw [qU k g1 g2, HC.out, ← gQ.out]; rfl), GN⟩
    case measure => simp [intOf]; omega
  ·go_wp2_with fail
   go_ret
   have ly : k = n := by omega
   subst ly
   have h5 := HC.out
   rw [List.take_of_length_le (by have := HN.out; omega), List.take_of_length_le (by have := iu.out; omega)] at h5
   exact ⟨by rw [h5]; rfl, hb⟩
theorem vO (s : Sx) : ∀ (t : Sx) (v vb : SV) (w : World), Rd w v s → Rd w vb t → Calls Tryz.prog 106 #[v.val, vb.val] w fun e w' => e = .returned (.bool (s.same t)) ∧ Below w.heap.size w w' := by
 induction s using Sx.ind with
 | h l hh hi da ks ih =>
 intro t v vb w hr hrb
 obtain ⟨lb, Ho, nN, dab, ksb⟩ := t
 have IH := I5 ih
 clear ih
 have pd := I5 hr
 obtain ⟨eQ, fK, an, aO, hn, ie, ea, K, ah, hk⟩ := hr.parts
 obtain ⟨vl, vh, a1, n1, k1, a2, n2, k2, a3, n3, k3⟩ := v
 dsimp only at hn ie ea ah hk eQ fK an aO
 obtain rfl : vl = l := eQ
 obtain rfl : vh = hh := fK
 replace hn : n3 = ks.length := hn
 replace an : Sl w a1 n1 k1 hi := an
 replace aO : Sl w a2 n2 k2 da := aO
 replace hk : ∀ i (hi : i < ks.length), RdI (fun _ => True) w (K i) ks[i] := hk
 have HK := I5 hk
 have HR := I5 ah
 have fL := I5 an
 have mJ := I5 aO
 have Dh := I5 hn
 clear hk ah hr an aO hn
 unfold maxLen at ea
 have HRRb := I5 hrb
 obtain ⟨eQ, fK, an, aO, hn, AF, CH, Kb, ah, hk⟩ := hrb.parts
 obtain ⟨vlb, vhb, a1b, n1b, k1b, a2b, n2b, k2b, a3b, n3b, k3b⟩ := vb
 dsimp only at hn AF CH ah hk eQ fK an aO
 obtain rfl : vlb = lb := eQ
 obtain rfl : vhb = Ho := fK
 replace hn : n3b = ksb.length := hn
 replace an : Sl w a1b n1b k1b nN := an
 replace aO : Sl w a2b n2b k2b dab := aO
 replace hk : ∀ i (hi : i < ksb.length), RdI (fun _ => True) w (Kb i) ksb[i] := hk
 have HKb := I5 hk
 have HRb := I5 ah
 have HS1b := I5 an
 have HS2b := I5 aO
 have HN3b := I5 hn
 clear hk ah hrb an aO hn
 unfold maxLen at CH
 by_cases e0 : vl = vlb
 case neg =>
  have q0 : (vl == vlb) = false := by simpa using e0
  have HQ := I5 q0
  clear e0
  have au : Below w.heap.size w ((w.alloc (.cells #[.bool vl, .bool vh, .slice a1 n1 k1, .slice a2 n2 k2, .slice a3 n3 k3] 32)).alloc (.cells #[.bool vlb, .bool vhb, .slice a1b n1b k1b, .slice a2b n2b k2b, .slice a3b n3b k3b] 32)) := ((Below.refl _ _).alloc (Nat.le_refl _) _).alloc (by simp) _
  have A0 : Box ((w.alloc (.cells #[.bool vl, .bool vh, .slice a1 n1 k1, .slice a2 n2 k2, .slice a3 n3 k3] 32)).alloc (.cells #[.bool vlb, .bool vhb, .slice a1b n1b k1b, .slice a2b n2b k2b, .slice a3b n3b k3b] 32)) w.heap.size 32 #[.bool vl, .bool vh, .slice a1 n1 k1, .slice a2 n2 k2, .slice a3 n3 k3] := (Box.new _ _ _).alloc _
  have B0 : Box ((w.alloc (.cells #[.bool vl, .bool vh, .slice a1 n1 k1, .slice a2 n2 k2, .slice a3 n3 k3] 32)).alloc (.cells #[.bool vlb, .bool vhb, .slice a1b n1b k1b, .slice a2b n2b k2b, .slice a3b n3b k3b] 32)) (w.heap.size + 1) 32 #[.bool vlb, .bool vhb, .slice a1b n1b k1b, .slice a2b n2b k2b, .slice a3b n3b k3b] := by
   have := Box.new (w.alloc (.cells #[.bool vl, .bool vh, .slice a1 n1 k1, .slice a2 n2 k2, .slice a3 n3 k3] 32)) 32 #[.bool vlb, .bool vhb, .slice a1b n1b k1b, .slice a2b n2b k2b, .slice a3b n3b k3b]
   simpa using this
  have x0 := A0.cell 0 rfl
  have x1 := A0.cell 1 rfl
  have x2 := A0.cell 2 rfl
  have x3 := A0.cell 3 rfl
  have x4 := A0.cell 4 rfl
  have y0 := B0.cell 0 rfl
  have y1 := B0.cell 1 rfl
  have y2 := B0.cell 2 rfl
  have y3 := B0.cell 3 rfl
  have y4 := B0.cell 4 rfl
  show Calls _ _ #[.agg #[.bool vl, .bool vh, .slice a1 n1 k1, .slice a2 n2 k2, .slice a3 n3 k3], .agg #[.bool vlb, .bool vhb, .slice a1b n1b k1b, .slice a2b n2b k2b, .slice a3b n3b k3b]] _ _
  go_enter Tryz.func106, Tryz.ntmps106
  go_wp2_with fail
  go_ret
  exact ⟨by rw [jE, HQ.out]; simp, au⟩
 subst e0
 by_cases e1 : vh = vhb
 case neg =>
  have q1 : (vh == vhb) = false := by simpa using e1
  have q0 : (vl == vl) = true := by simp
  have HQ := I5 q1
  clear e1
  have au : Below w.heap.size w ((w.alloc (.cells #[.bool vl, .bool vh, .slice a1 n1 k1, .slice a2 n2 k2, .slice a3 n3 k3] 32)).alloc (.cells #[.bool vl, .bool vhb, .slice a1b n1b k1b, .slice a2b n2b k2b, .slice a3b n3b k3b] 32)) := ((Below.refl _ _).alloc (Nat.le_refl _) _).alloc (by simp) _
  have A0 : Box ((w.alloc (.cells #[.bool vl, .bool vh, .slice a1 n1 k1, .slice a2 n2 k2, .slice a3 n3 k3] 32)).alloc (.cells #[.bool vl, .bool vhb, .slice a1b n1b k1b, .slice a2b n2b k2b, .slice a3b n3b k3b] 32)) w.heap.size 32 #[.bool vl, .bool vh, .slice a1 n1 k1, .slice a2 n2 k2, .slice a3 n3 k3] := (Box.new _ _ _).alloc _
  have B0 : Box ((w.alloc (.cells #[.bool vl, .bool vh, .slice a1 n1 k1, .slice a2 n2 k2, .slice a3 n3 k3] 32)).alloc (.cells #[.bool vl, .bool vhb, .slice a1b n1b k1b, .slice a2b n2b k2b, .slice a3b n3b k3b] 32)) (w.heap.size + 1) 32 #[.bool vl, .bool vhb, .slice a1b n1b k1b, .slice a2b n2b k2b, .slice a3b n3b k3b] := by
   have := Box.new (w.alloc (.cells #[.bool vl, .bool vh, .slice a1 n1 k1, .slice a2 n2 k2, .slice a3 n3 k3] 32)) 32 #[.bool vl, .bool vhb, .slice a1b n1b k1b, .slice a2b n2b k2b, .slice a3b n3b k3b]
   simpa using this
  have x0 := A0.cell 0 rfl
  have x1 := A0.cell 1 rfl
  have x2 := A0.cell 2 rfl
  have x3 := A0.cell 3 rfl
  have x4 := A0.cell 4 rfl
  have y0 := B0.cell 0 rfl
  have y1 := B0.cell 1 rfl
  have y2 := B0.cell 2 rfl
  have y3 := B0.cell 3 rfl
  have y4 := B0.cell 4 rfl
  show Calls _ _ #[.agg #[.bool vl, .bool vh, .slice a1 n1 k1, .slice a2 n2 k2, .slice a3 n3 k3], .agg #[.bool vl, .bool vhb, .slice a1b n1b k1b, .slice a2b n2b k2b, .slice a3b n3b k3b]] _ _
  go_enter Tryz.func106, Tryz.ntmps106
  go_wp2_with fail
  go_ret
  exact ⟨by rw [jE, HQ.out]; simp, au⟩
 subst e1
 obtain ⟨r2, oY⟩ : ∃ r, r = (hi == nN) := ⟨_, rfl⟩
 obtain ⟨r3, yK⟩ : ∃ r, r = (da == dab) := ⟨_, rfl⟩
 obtain ⟨r4, Ea⟩ : ∃ r, r = Sx.sameL ks ksb := ⟨_, rfl⟩
 have Bc : Hid ((Sx.mk vl vh hi da ks).same (.mk vl vh nN dab ksb) = (r2 && r3 && r4)) := I5 (by rw [jE, oY, yK, Ea]; simp)
 have GQ := I5 (fun w' (h : Below w.heap.size w w') => j0 a1 n1 k1 hi a1b n1b k1b nN w' (fL.out.after h) (HS1b.out.after h))
 have GP := I5 (fun w' (h : Below w.heap.size w w') => j0 a2 n2 k2 da a2b n2b k2b dab w' (mJ.out.after h) (HS2b.out.after h))
 have GO := I5 (fun w' (h : Below w.heap.size w w') => uI a3 n3 k3 K ks a3b n3b k3b Kb ksb w' (HR.out.after h) (HRb.out.after h) Dh.out HN3b.out (fun i h1 h2 w2 hw => IH.out _ (List.getElem_mem h1) _ _ _ _ (((HK.out i h1).after h).after hw) (((HKb.out i h2).after h).after hw)))
 rw [← oY] at GQ
 rw [← yK] at GP
 rw [← Ea] at GO
 clear oY yK Ea
 have q0 : (vl == vl) = true := by simp
 have q1 : (vh == vh) = true := by simp
 let z0 := ((w.alloc (.cells #[.bool vl, .bool vh, .slice a1 n1 k1, .slice a2 n2 k2, .slice a3 n3 k3] 32)).alloc (.cells #[.bool vl, .bool vh, .slice a1b n1b k1b, .slice a2b n2b k2b, .slice a3b n3b k3b] 32))
 have au : Below w.heap.size w z0 := ((Below.refl _ _).alloc (Nat.le_refl _) _).alloc (by simp [z0, z0]) _
 have A0 : Box z0 w.heap.size 32 #[.bool vl, .bool vh, .slice a1 n1 k1, .slice a2 n2 k2, .slice a3 n3 k3] := (Box.new _ _ _).alloc _
 have B0 : Box z0 (w.heap.size + 1) 32 #[.bool vl, .bool vh, .slice a1b n1b k1b, .slice a2b n2b k2b, .slice a3b n3b k3b] := by
  have := Box.new (w.alloc (.cells #[.bool vl, .bool vh, .slice a1 n1 k1, .slice a2 n2 k2, .slice a3 n3 k3] 32)) 32 #[.bool vl, .bool vh, .slice a1b n1b k1b, .slice a2b n2b k2b, .slice a3b n3b k3b]
  simpa [z0] using this
 have x0 := A0.cell 0 rfl
 have x1 := A0.cell 1 rfl
 have x2 := A0.cell 2 rfl
 have x3 := A0.cell 3 rfl
 have x4 := A0.cell 4 rfl
 have y0 := B0.cell 0 rfl
 have y1 := B0.cell 1 rfl
 have y2 := B0.cell 2 rfl
 have y3 := B0.cell 3 rfl
 have y4 := B0.cell 4 rfl
 show Calls _ _ #[.agg #[.bool vl, .bool vh, .slice a1 n1 k1, .slice a2 n2 k2, .slice a3 n3 k3], .agg #[.bool vl, .bool vh, .slice a1b n1b k1b, .slice a2b n2b k2b, .slice a3b n3b k3b]] _ _
 go_enter Tryz.func106, Tryz.ntmps106
 go_upto_region 1 with fail
 change Code.wp _ _ _ _ z0
 clear_value z0
 go_wp2_with fail
 refine (GQ.out _ au).mono ?_
 rintro e w1 ⟨rfl, af⟩
 have er := au.trans (af.mono au.size)
 have A1 := A0.after af
 have B1 := B0.after af
 clear af x0 x1 x2 x3 x4 y0 y1 y2 y3 y4 A0 B0
 have x0 := A1.cell 0 rfl
 have x1 := A1.cell 1 rfl
 have x2 := A1.cell 2 rfl
 have x3 := A1.cell 3 rfl
 have x4 := A1.cell 4 rfl
 have y0 := B1.cell 0 rfl
 have y1 := B1.cell 1 rfl
 have y2 := B1.cell 2 rfl
 have y3 := B1.cell 3 rfl
 have y4 := B1.cell 4 rfl
 cases r2 with
 | false =>
  go_wp2_with fail
  go_ret
  exact ⟨by rw [Bc.out]; simp, er⟩
 | true =>
  go_wp2_with fail
  refine (GP.out _ er).mono ?_
  rintro e w2 ⟨rfl, aK⟩
  have mP := er.trans (aK.mono er.size)
  have A2 := A1.after aK
  have B2 := B1.after aK
  clear aK x0 x1 x2 x3 x4 y0 y1 y2 y3 y4 A1 B1
  have x0 := A2.cell 0 rfl
  have x1 := A2.cell 1 rfl
  have x2 := A2.cell 2 rfl
  have x3 := A2.cell 3 rfl
  have x4 := A2.cell 4 rfl
  have y0 := B2.cell 0 rfl
  have y1 := B2.cell 1 rfl
  have y2 := B2.cell 2 rfl
  have y3 := B2.cell 3 rfl
  have y4 := B2.cell 4 rfl
  cases r3 with
  | false =>
   go_wp2_with fail
   go_ret
   exact ⟨by rw [Bc.out]; simp, mP⟩
  | true =>
   go_wp2_with fail
   refine (GO.out _ mP).mono ?_
   rintro e w3 ⟨rfl, bK⟩
   have Bo := mP.trans (bK.mono mP.size)
   go_wp2_with fail
   go_ret
   exact ⟨by rw [Bc.out]; simp, Bo⟩
section
open Go.RowKit Go.ChangeShapes Go.WideShapes Go.ChangeAt
theorem qz : Tryz.prog.cellsOf 4 = 1 ∧ Tryz.prog.cellsOf 22 = 1 ∧ Tryz.prog.cellsOf 30 = 1 ∧ Tryz.prog.cellsOf 32 = 5 ∧ Tryz.prog.cellsOf 5 = 1 := ⟨by kernel_rfl, by kernel_rfl, by kernel_rfl, by kernel_rfl, by kernel_rfl⟩
theorem mC {H : Type} : ∀ (l : List (DataW H × List MemPlace)) (g : Nat → Sx), (∀ i (h : i < l.length), (g i).nodes ≤ Rows.uptoBulk l[i].1) → Sx.nodesL ((List.range l.length).map g) ≤ Rows.uptoBulkAll (l.map (·.1))
 | [], _, _ => by simp [Sx.nodesL]
 | x :: r, g, h => by
  rw [List.length_cons, List.range_succ_eq_map, List.map_cons, List.map_map]
  simp only [Sx.nodesL, List.map_cons, Rows.uptoBulkAll]
  have h0 := h 0 (by simp)
  have := mC r (g ∘ Nat.succ) (fun i hi => by have := h (i + 1) (by simpa using hi); simpa using this)
  simp only [List.getElem_cons_zero] at h0
  omega
section
variable {H : Type} {enc : TypeId × Value → H} {W : World} {fb : Bool}
theorem l8 {fuel : Nat} {c : Value} {x : DataW H × List MemPlace} (h : DataW.trod enc Tryz.prog W 0 (fun _ => true) fb fuel 22 [c] = some x) :
  ∃ (a : Option Addr) (n k : Nat) (l : List UInt8), c = .slice a n k ∧ Sl W a n k l := by
 rcases open_ints Tryz.underlying22 Tryz.underlying5 qz.2.2.2.2 h with ⟨vv, _⟩ | ⟨x, l, k, zs, vv, _, hl, hm, hz, _, jW, Dp⟩
 ·simp at vv
  exact ⟨none, 0, 0, [], vv, Sl.nil W⟩
 ·simp at vv
  have hr : IsRow .u8 W (some x) l k zs := .inr ⟨_, rfl, hl, hm, by simpa using hz, jW, Dp⟩
  obtain ⟨L, hL⟩ := hr.sl
  exact ⟨_, l, k, L, vv, hL⟩
theorem vZ : ∀ (fuel : Nat) (cs : List Value) (x : DataW H × List MemPlace), DataW.trod enc Tryz.prog W 0 (fun _ => true) fb fuel 32 cs = some x →
  ∃ (v : SV) (s : Sx), cs = v.cells.toList ∧ Rd W v s ∧ s.nodes ≤ Rows.uptoBulk x.1 := by
 intro fuel
 induction fuel using Nat.strongRecOn with
 | _ fuel ih =>
  intro cs x h
  obtain ⟨k1, k2, k3, k4, k5⟩ := qz
  obtain ⟨xs, n, hf, rfl, hl, Bv, hg⟩ := DataW.trod_struct Tryz.underlying32 h
  rw [k4] at hl
  match cs, hl with
  | [c0, c1, c2, c3, c4], _ =>
   match xs, Bv with
   | [y0, y1, y2, y3, y4], _ =>
    have h0 : DataW.trod enc Tryz.prog W 0 (fun _ => true) fb n 4 (([c0, c1, c2, c3, c4].drop 0).take (Tryz.prog.cellsOf 4)) = some y0 := hg 0 _ rfl
    have h1 : DataW.trod enc Tryz.prog W 0 (fun _ => true) fb n 4 (([c0, c1, c2, c3, c4].drop 1).take (Tryz.prog.cellsOf 4)) = some y1 := hg 1 _ rfl
    have h2 : DataW.trod enc Tryz.prog W 0 (fun _ => true) fb n 22 (([c0, c1, c2, c3, c4].drop 2).take (Tryz.prog.cellsOf 22)) = some y2 := hg 2 _ rfl
    have h3 : DataW.trod enc Tryz.prog W 0 (fun _ => true) fb n 22 (([c0, c1, c2, c3, c4].drop 3).take (Tryz.prog.cellsOf 22)) = some y3 := hg 3 _ rfl
    have h4 : DataW.trod enc Tryz.prog W 0 (fun _ => true) fb n 30 (([c0, c1, c2, c3, c4].drop 4).take (Tryz.prog.cellsOf 30)) = some y4 := hg 4 _ rfl
    rw [k1] at h0 h1
    rw [k2] at h2 h3
    rw [k3] at h4
    obtain ⟨bl, e0, _⟩ := DataW.trod_bool Tryz.underlying4 h0
    obtain ⟨bh, e1, _⟩ := DataW.trod_bool Tryz.underlying4 h1
    obtain ⟨a2, n2, q2, l2, rfl, s2⟩ := l8 h2
    obtain ⟨a3, n3, q3, l3, rfl, s3⟩ := l8 h3
    have e0' : c0 = .bool bl := by simpa using e0
    have e1' : c1 = .bool bh := by simpa using e1
    subst e0' e1'
    rcases DataW.trod_slice Tryz.underlying30 h4 with ⟨e4, rfl⟩ | ⟨a, len, cap, elems, rest, m, hm, e4, rfl, _, AG, ea, EC, EK, _, _⟩
    ·have e4' : c4 = .slice none 0 0 := by simpa using e4
     subst e4'
     refine ⟨⟨bl, bh, a2, n2, q2, a3, n3, q3, none, 0, 0⟩, .mk bl bh l2 l3 [], rfl, .mk _ l2 l3 [] (fun _ => SV.nil) s2 (.inr fun _ _ _ _ => trivial) s3 (.inr fun _ _ _ _ => trivial) ⟨Nat.le_refl _, Nat.zero_le _, fun _ => rfl, .inl rfl⟩ (.inl rfl) rfl (fun i hi => by cases hi), ?_⟩
     simp only [Sx.nodes, Sx.nodesL, Rows.uptoBulk]
     omega
    ·have e4' : c4 = .slice (some a) len cap := by simpa using e4
     subst e4'
     have key : ∀ i, i < len → ∃ p : SV × Sx, (∃ he : i < elems.length, p.2.nodes ≤ Rows.uptoBulk elems[i].1) ∧ W.cells? 0 (a.add (i * 5)) 5 = some p.1.cells.toList ∧ Rd W p.1 p.2 := fun i hi => by
      have hi' : i < elems.length := by omega
      have h5 := EK i hi
      rw [k4, List.getElem?_eq_getElem hi'] at h5
      obtain ⟨cs', o7, zL⟩ := Option.bind_eq_some_iff.1 h5
      obtain ⟨v, s, rfl, kD, Ef⟩ := ih m (by omega) cs' _ zL
      exact ⟨(v, s), ⟨hi', Ef⟩, o7, kD⟩
     haveI : Inhabited (SV × Sx) := ⟨(SV.nil, default)⟩
     obtain ⟨f, hf'⟩ := Go.Deep.choose_lt key
     obtain ⟨b, o, spot⟩ := a
     have jW : ∀ i, i < len → ∀ j u, (f i).1.cells[j]? = some u → W.cell? (((⟨b, o, spot⟩ : Addr).add (i * 5)).add j) = some u := fun i hi j u hu => by
      have h6 := (hf' i hi).2.1
      unfold World.cells? at h6
      rw [if_pos (Nat.zero_le _)] at h6
      have hj : j < 5 := by have := (Array.getElem?_eq_some_iff.1 hu).1; rwa [SV.cells_size] at this
      have h7 := mapM_some_get h6 j j (by simp [hj])
      rw [h7]
      simpa using hu
     have DY : len = 0 ∨ spot = none := by
      by_cases h0' : len = 0
      ·exact .inl h0'
      ·right
       have := World.cell?_spot (jW 0 (by omega) 0 _ rfl)
       simpa [Addr.add] using this
     refine ⟨⟨bl, bh, a2, n2, q2, a3, n3, q3, some ⟨b, o, spot⟩, len, cap⟩, .mk bl bh l2 l3 ((List.range len).map fun i => (f i).2), rfl,
      .mk _ l2 l3 _ (fun i => (f i).1) s2 (.inr fun _ _ _ _ => trivial) s3 (.inr fun _ _ _ _ => trivial) ⟨AG, ea, (fun h => by cases h), ?_⟩ (.inr fun _ _ _ _ => trivial) (by simp) (fun i hi => ?_), ?_⟩
     ·rcases DY with h0' | rfl
      ·exact .inl h0'
      ·refine .inr ⟨b, o, rfl, fun i hi j u hu => ?_⟩
       have := jW i hi j u hu
       rwa [Addr.add_mid, Addr.add_mid] at this
     ·have hi' : i < len := by simpa using hi
      have := (hf' i hi').2.2
      simpa using this
     ·have := mC elems (fun i => (f i).2) (fun i hi => (hf' i (by omega)).1.2)
      rw [EC] at this
      simp only [Sx.nodes, Rows.uptoBulk, Rows.uptoBulkAll, List.map_cons, List.map_nil]
      omega
theorem open_sx {r : Reach} {b0 : Nat} {v : Value} {d : DataW H} {p : List MemPlace} (hv : Value.okWide Tryz.prog W r b0 32 v) (h : DataW.Trod enc Tryz.prog W 0 (fun _ => true) fb 32 v d p) :
  ∃ (u : SV) (s : Sx), v = u.val ∧ Rd W u s ∧ s.nodes ≤ Rows.uptoBulk d := by
 obtain ⟨cs, rfl, mM⟩ := okWide_struct Tryz.underlying32 hv
 obtain ⟨fuel, hf⟩ := h
 obtain ⟨u, s, e, hr, hn⟩ := vZ fuel _ _ hf
 refine ⟨u, s, ?_, hr, hn⟩
 have : cs = u.cells := by
  apply Array.ext'
  simpa [Value.cells] using e
 rw [this]
 rfl
end
end
structure RV where
 v : Sx
 p : Nat
 n : Nat
 e : Nat
def RV.err (p e : Nat) : RV := ⟨Sx.nil, p, 0, e⟩
end Go.Proofs.YtmmkaclmgnpplaaGreatDoor

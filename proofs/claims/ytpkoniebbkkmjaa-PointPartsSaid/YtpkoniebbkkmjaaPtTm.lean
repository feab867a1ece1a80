/- Points: a table of points in memory; a number's parts of four bits, and its bits. -/
import Derived.Test.YtpkoniebbkkmjaaPtTwo
import Derived.Test.YtpkoniebbkkmjaaPtWk
import Derived.Deep.MidRow
namespace Go.Proofs.Ytpkoniebbkkmjaa
open Go.RowKit
set_option linter.unusedVariables false
set_option linter.unusedSimpArgs false

/-! numbers -/
def topB (f : Nat → Nat) : Nat → Nat
  | 0 => 0
  | k + 1 => 256 * topB f k + f (31 - k)
def topN (f : Nat → Nat) : Nat → Nat
  | 0 => 0
  | m + 1 => 16 * topN f m + f ((63 - m) / 2) / 16 ^ ((63 - m) % 2) % 16
def topI (f : Nat → Nat) : Nat → Nat
  | 0 => 0
  | m + 1 => 2 * topI f m + f ((255 - m) / 8) / 2 ^ ((255 - m) % 8) % 2
theorem topN_eq (f : Nat → Nat) (hf : ∀ j, f j < 256) : ∀ k, k ≤ 32 → topN f (2 * k) = topB f k
  | 0, _ => rfl
  | k + 1, h => by
    have ih := topN_eq f hf k (by omega)
    have h1 : topN f (2 * (k + 1)) = 16 * (16 * topN f (2 * k) + f ((63 - 2 * k) / 2) / 16 ^ ((63 - 2 * k) % 2) % 16) + f ((63 - (2 * k + 1)) / 2) / 16 ^ ((63 - (2 * k + 1)) % 2) % 16 := rfl
    have e1 : (63 - 2 * k) / 2 = 31 - k := by omega
    have e2 : (63 - 2 * k) % 2 = 1 := by omega
    have e3 : (63 - (2 * k + 1)) / 2 = 31 - k := by omega
    have e4 : (63 - (2 * k + 1)) % 2 = 0 := by omega
    rw [h1, ih, e1, e2, e3, e4]
    have := hf (31 - k)
    show _ = 256 * topB f k + f (31 - k)
    omega
theorem topI_eq (f : Nat → Nat) (hf : ∀ j, f j < 256) : ∀ k, k ≤ 32 → topI f (8 * k) = topB f k
  | 0, _ => rfl
  | k + 1, h => by
    have ih := topI_eq f hf k (by omega)
    have h1 : topI f (8 * (k + 1)) = 2 * (2 * (2 * (2 * (2 * (2 * (2 * (2 * topI f (8 * k) + f ((255 - (8 * k)) / 8) / 2 ^ ((255 - (8 * k)) % 8) % 2) + f ((255 - (8 * k + 1)) / 8) / 2 ^ ((255 - (8 * k + 1)) % 8) % 2) + f ((255 - (8 * k + 2)) / 8) / 2 ^ ((255 - (8 * k + 2)) % 8) % 2) + f ((255 - (8 * k + 3)) / 8) / 2 ^ ((255 - (8 * k + 3)) % 8) % 2) + f ((255 - (8 * k + 4)) / 8) / 2 ^ ((255 - (8 * k + 4)) % 8) % 2) + f ((255 - (8 * k + 5)) / 8) / 2 ^ ((255 - (8 * k + 5)) % 8) % 2) + f ((255 - (8 * k + 6)) / 8) / 2 ^ ((255 - (8 * k + 6)) % 8) % 2) + f ((255 - (8 * k + 7)) / 8) / 2 ^ ((255 - (8 * k + 7)) % 8) % 2 := rfl
    have e : ∀ j, j < 8 → (255 - (8 * k + j)) / 8 = 31 - k ∧ (255 - (8 * k + j)) % 8 = 7 - j := by intro j hj; omega
    have e0 := e 0 (by omega)
    rw [Nat.add_zero] at e0
    rw [h1, ih, e0.1, e0.2, (e 1 (by omega)).1, (e 1 (by omega)).2, (e 2 (by omega)).1, (e 2 (by omega)).2, (e 3 (by omega)).1, (e 3 (by omega)).2, (e 4 (by omega)).1, (e 4 (by omega)).2, (e 5 (by omega)).1, (e 5 (by omega)).2, (e 6 (by omega)).1, (e 6 (by omega)).2, (e 7 (by omega)).1, (e 7 (by omega)).2]
    have := hf (31 - k)
    show _ = 256 * topB f k + f (31 - k)
    generalize f (31 - k) = c at *
    simp only [Nat.reduceSub, Nat.reducePow]
    omega

theorem shr_nib (c r s : Nat) (hr : r < 2) (hs : s = c / 16 ^ r) : (c : Int) / 2 ^ (4 * (r : Int)).toNat = (s : Int) := by
  subst hs
  rcases (show r = 0 ∨ r = 1 by omega) with rfl | rfl
  · simp
  · show (c : Int) / 2 ^ 4 = ((c / 16 ^ 1 : Nat) : Int)
    simp only [Nat.pow_one]
    omega

/-! points as their cells -/
def IsPt (a : PP) (e : Array Value) : Prop := ∃ x y z t : L5, e = pArr x y z t ∧ PtIs a x y z t
theorem IsPt.size {a : PP} {e : Array Value} (h : IsPt a e) : e.size = 20 := by
  obtain ⟨x, y, z, t, rfl, _⟩ := h
  exact pArr_size x y z t
theorem IsPt.one {a : PP} {e : Array Value} (h : IsPt a e) : e.all (·.oneCell') = true := by
  obtain ⟨x, y, z, t, rfl, _⟩ := h
  exact pArr_one x y z t
def RetP (a : PP) (w : World) (e : Ending) (w' : World) : Prop := ∃ c : Array Value, e = .returned (.agg c) ∧ IsPt a c ∧ Below w.heap.size w w'
def IsAd (d : Array Value) : Prop := ∃ d2 : L5, d = gArr d2.at ∧ El d2 (fa dN dN)
theorem IsAd.size {d : Array Value} (h : IsAd d) : d.size = 5 := by
  obtain ⟨d2, rfl, _⟩ := h
  exact gArr_size _
theorem IsAd.one {d : Array Value} (h : IsAd d) : d.all (·.oneCell') = true := by
  obtain ⟨d2, rfl, _⟩ := h
  exact gArr_one _
theorem RetIs.toP {a : PP} {w w' : World} {e : Ending} (h : RetIs a w e w') : RetP a w e w' := by
  obtain ⟨x, y, z, t, rfl, h1, h2⟩ := h
  exact ⟨_, rfl, ⟨x, y, z, t, rfl, h1⟩, h2⟩
theorem add0_p {a b : PP} {d ea eb : Array Value} (hd : IsAd d) (ha : IsPt a ea) (hb : IsPt b eb) (w : World) : Calls Try.prog 45 #[.agg d, .agg ea, .agg eb] w (RetP (padd a b) w) := by
  obtain ⟨d2, rfl, hd⟩ := hd
  obtain ⟨x, y, z, t, rfl, ha⟩ := ha
  obtain ⟨x2, y2, z2, t2, rfl, hb⟩ := hb
  exact (add0_is d2 x y z t x2 y2 z2 t2 a b hd ha hb w).mono fun e w' h => h.toP
theorem zero_p (w : World) : Calls Try.prog 20 #[] w (RetP pzero w) := (zero_is w).mono fun e w' h => h.toP
theorem of_p (w : World) : Calls Try.prog 44 #[] w fun e w' => ∃ d : Array Value, e = .returned (.agg d) ∧ IsAd d ∧ Below w.heap.size w w' :=
  (ofA_any w).mono fun e w' ⟨z, h1, h2, h3⟩ => ⟨_, h1, ⟨z, rfl, h2⟩, h3⟩

theorem smul_succ (n : Nat) (p : PP) : smul (n + 1) p = padd (smul n p) p := rfl
theorem topN_zero (f : Nat → Nat) : topN f 0 = 0 := rfl
theorem topN_succ (f : Nat → Nat) (m : Nat) : topN f (m + 1) = 16 * topN f m + f ((63 - m) / 2) / 16 ^ ((63 - m) % 2) % 16 := rfl
theorem topI_zero (f : Nat → Nat) : topI f 0 = 0 := rfl
theorem topI_succ (f : Nat → Nat) (m : Nat) : topI f (m + 1) = 2 * topI f m + f ((255 - m) / 8) / 2 ^ ((255 - m) % 8) % 2 := rfl
theorem smul_twice {p : PP} (hok : p.ok) {k t : Nat} : smul (2 ^ (k + 1) * t) p = padd (smul (2 ^ k * t) p) (smul (2 ^ k * t) p) := by
  rw [← smul_add hok]
  congr 1
  rw [Nat.pow_succ]
  generalize 2 ^ k = c
  rw [Nat.mul_comm c 2, Nat.mul_assoc]
  omega
theorem smul_zero (p : PP) : smul 0 p = pzero := rfl
/-! the table -/
def flat (es : List (Array Value)) : Array Value := (es.flatMap Array.toList).toArray
def Sized (es : List (Array Value)) : Prop := ∀ e ∈ es, e.size = 20
theorem flat_len : ∀ {es : List (Array Value)}, Sized es → (es.flatMap Array.toList).length = 20 * es.length
  | [], _ => rfl
  | e :: r, h => by
    have h1 := flat_len (es := r) (fun x hx => h x (List.mem_cons_of_mem _ hx))
    have h2 := h e (List.mem_cons_self ..)
    rw [List.flatMap_cons, List.length_append, h1, List.length_cons, Array.length_toList, h2]
    omega
theorem flat_split (es : List (Array Value)) (i : Nat) (hi : i < es.length) : es.flatMap Array.toList = (es.take i).flatMap Array.toList ++ (es[i].toList ++ (es.drop (i + 1)).flatMap Array.toList) := by
  conv => lhs; rw [← List.take_append_drop i es, List.drop_eq_getElem_cons hi]
  rw [List.flatMap_append, List.flatMap_cons]
theorem flat_set (es : List (Array Value)) (i : Nat) (hi : i < es.length) (e : Array Value) : (es.set i e).flatMap Array.toList = (es.take i).flatMap Array.toList ++ (e.toList ++ (es.drop (i + 1)).flatMap Array.toList) := by
  rw [List.set_eq_take_append_cons_drop, if_pos hi, List.flatMap_append, List.flatMap_cons]
theorem Sized.take {es : List (Array Value)} (h : Sized es) (i : Nat) : Sized (es.take i) := fun e he => h e (List.mem_of_mem_take he)
theorem few_range {w : World} {g i : Nat} {T : TypeId} {es : List (Array Value)} (h : Box w g T (flat es)) (hs : Sized es) (hi : i < es.length) : w.rangeAt g (i * 20) es[i].toList := by
  rw [Nat.mul_comm]
  intro j v hv
  refine h.cell (20 * i + j) ?_
  have hj : j < es[i].toList.length := (List.getElem?_eq_some_iff.1 hv).1
  have hl := flat_len (hs.take i)
  rw [List.length_take, Nat.min_eq_left (Nat.le_of_lt hi)] at hl
  unfold flat
  rw [List.getElem?_toArray, flat_split es i hi, List.getElem?_append_right (by omega), hl, Nat.add_sub_cancel_left, List.getElem?_append_left hj]
  exact hv
theorem setCells_part (g : Nat) (T : TypeId) : ∀ (vs : List Value) (o : Nat) (w : World) (pre mid suf : List Value), pre.length = o → mid.length = vs.length → Box w g T (pre ++ (mid ++ suf)).toArray →
    Box (w.setCells g o vs) g T (pre ++ (vs ++ suf)).toArray ∧ Stored w (w.setCells g o vs) g
  | [], o, w, pre, mid, suf, _, hl, h => by
    have : mid = [] := List.eq_nil_of_length_eq_zero hl
    subst this
    exact ⟨h, Stored.refl _ _⟩
  | v :: vs, o, w, pre, [], suf, _, hl, _ => by cases hl
  | v :: vs, o, w, pre, p :: mid, suf, hp, hl, h => by
    have h1 := h.set o v
    have e : (pre ++ (p :: mid ++ suf)).toArray.setIfInBounds o v = ((pre ++ [v]) ++ (mid ++ suf)).toArray := by
      subst hp
      simp
    rw [e] at h1
    have h2 := setCells_part g T vs (o + 1) (w.setCell ⟨g, o, none⟩ v) (pre ++ [v]) mid suf (by simp [hp]) (by simpa using hl) h1
    refine ⟨by simpa [World.setCells] using h2.1, ?_⟩
    have h3 := (Stored.refl w g).setCell o v
    exact ⟨fun k hk => (h2.2.other k hk).trans (h3.other k hk), h2.2.size.trans h3.size, fun B W hB hb => h2.2.below B W hB (h3.below B W hB hb)⟩
section
variable {P : Program} {ops : Array Oper}
theorem wp_store_few {o : Oper} {a : Act} {w : World} {K : Act → World → Prop} {Q : Exit → Act → World → Prop} (ty : TypeId) (x y : Operand) (ho : o.op = .store ty x y)
    {g i : Nat} {T : TypeId} {es : List (Array Value)} (hg : Box w g T (flat es)) (hs : Sized es) (hi : i < es.length) (hx : a.eval x = .pointer (some ⟨g, i * 20, none⟩)) {e : Array Value} (hy : a.eval y = .agg e) (he : e.size = 20)
    (hn : (P.info? ty).map (·.size) = some e.size) (h1 : e.all (·.oneCell') = true)
    (h : ∀ w', Box w' g T (flat (es.set i e)) → Stored w w' g → K (a.put o.dst undef) w') : o.wp P a w K Q := by
  rw [Nat.mul_comm] at hx
  have hl := flat_len (hs.take i)
  rw [List.length_take, Nat.min_eq_left (Nat.le_of_lt hi)] at hl
  have hm : es[i].toList.length = e.toList.length := by rw [Array.length_toList, Array.length_toList, he]; exact hs _ (List.getElem_mem _)
  have hg' : Box w g T ((es.take i).flatMap Array.toList ++ (es[i].toList ++ (es.drop (i + 1)).flatMap Array.toList)).toArray := by
    rw [← flat_split es i hi]
    exact hg
  have hs2 := setCells_part g T e.toList (20 * i) w _ _ _ hl hm hg'
  rw [← flat_set es i hi e] at hs2
  refine wp_store_mid ty x y ho g (20 * i) e hx hy (fun j hj => ?_) hn h1 (h _ hs2.1 hs2.2)
  have hm2 : es[i].toList.length = 20 := by rw [hm, Array.length_toList, he]
  exact ⟨by rw [cell_of_row w g (20 * i + j) _ T _ hg', List.getElem?_toArray, List.getElem?_eq_getElem (by simp only [List.length_append]; omega)]; rfl, hg.frozen (20 * i + j)⟩
theorem wpList_store_few {rest : List Oper} {o : Oper} {a : Act} {w : World} {Q : Exit → Act → World → Prop} (hgd : Region.wanted o (yielded ops a.tmps) = true) (ty : TypeId) (x y : Operand) (ho : o.op = .store ty x y)
    {g i : Nat} {T : TypeId} {es : List (Array Value)} (hg : Box w g T (flat es)) (hs : Sized es) (hi : i < es.length) (hx : a.eval x = .pointer (some ⟨g, i * 20, none⟩)) {e : Array Value} (hy : a.eval y = .agg e) (he : e.size = 20)
    (hn : (P.info? ty).map (·.size) = some e.size) (h1 : e.all (·.oneCell') = true)
    (h : ∀ w', Box w' g T (flat (es.set i e)) → Stored w w' g → wpList P ops Q rest (a.put o.dst undef) w') : wpList P ops Q (o :: rest) a w :=
  wpList_want hgd fun _ hK => wp_store_few ty x y ho hg hs hi hx hy he hn h1 fun w' b s => hK _ _ (h w' b s)
end
structure FewIs (p : PP) (es : List (Array Value)) (k : Nat) : Prop where
  len : es.length = 16
  sized : Sized es
  get : ∀ i (h : i < es.length), i < k → IsPt (smul i p) es[i]
theorem FewIs.set {p : PP} {es : List (Array Value)} {k : Nat} (h : FewIs p es k) {e : Array Value} (he : IsPt (smul k p) e) : FewIs p (es.set k e) (k + 1) := by
  refine ⟨by simpa using h.len, fun x hx => ?_, fun i hi hk => ?_⟩
  · rcases List.mem_or_eq_of_mem_set hx with h1 | h1
    · exact h.sized x h1
    · rw [h1]; exact he.size
  · rw [List.getElem_set]
    split
    · rename_i e1
      subst e1
      exact he
    · rename_i e1
      exact h.get i (by simpa using hi) (by omega)
def Z20 : Array Value := #[.int .u64 0, .int .u64 0, .int .u64 0, .int .u64 0, .int .u64 0, .int .u64 0, .int .u64 0, .int .u64 0, .int .u64 0, .int .u64 0, .int .u64 0, .int .u64 0, .int .u64 0, .int .u64 0, .int .u64 0, .int .u64 0, .int .u64 0, .int .u64 0, .int .u64 0, .int .u64 0]
theorem few_new (p : PP) : FewIs p (List.replicate 16 Z20) 0 := ⟨by simp, fun e he => by rw [(List.mem_replicate.1 he).2]; rfl, fun i hi hk => by omega⟩

/-! the world of a multiple: the point, the number, the result, the adder, the table -/
structure TmS (w : World) (gA gF : Nat) (e nA z dA fA : Array Value) (w' : World) : Prop where
  P : Box w' w.heap.size 29 e
  N : Box w' (w.heap.size + 1) 39 nA
  O : Box w' (w.heap.size + 2) 29 z
  A : Box w' gA 72 dA
  F : Box w' gF 76 fA
  B : Below w.heap.size w w'
theorem TmS.after {w : World} {gA gF : Nat} {e nA z dA fA : Array Value} {w1 w2 : World} (h : TmS w gA gF e nA z dA fA w1) (b : Below w1.heap.size w1 w2) : TmS w gA gF e nA z dA fA w2 :=
  ⟨h.P.after b, h.N.after b, h.O.after b, h.A.after b, h.F.after b, h.B.trans (b.mono h.B.size)⟩
theorem TmS.few {w : World} {gA gF : Nat} {e nA z dA fA fB : Array Value} {w1 w2 : World} (h : TmS w gA gF e nA z dA fA w1) (st : Stored w1 w2 gF) (hF : Box w2 gF 76 fB) (h1 : w.heap.size + 3 ≤ gA) (h2 : gA < gF) : TmS w gA gF e nA z dA fB w2 :=
  ⟨st.box h.P (by omega), st.box h.N (by omega), st.box h.O (by omega), st.box h.A (by omega), hF, st.below _ _ (by omega) h.B⟩
theorem TmS.far {w : World} {gA gF : Nat} {e nA z dA fA : Array Value} {w1 w2 : World} {g : Nat} (h : TmS w gA gF e nA z dA fA w1) (st : Stored w1 w2 g) (h1 : w.heap.size + 3 ≤ gA) (h2 : gA < gF) (h3 : gF < g) : TmS w gA gF e nA z dA fA w2 :=
  ⟨st.box h.P (by omega), st.box h.N (by omega), st.box h.O (by omega), st.box h.A (by omega), st.box h.F (by omega), st.below _ _ (by omega) h.B⟩
structure BytesOf (nA : Array Value) (f : Nat → Nat) : Prop where
  size : nA.size = 32
  lt : ∀ j, f j < 256
  get : ∀ j, j < 32 → nA[j]? = some (.int .u8 (f j : Nat))
end Go.Proofs.Ytpkoniebbkkmjaa

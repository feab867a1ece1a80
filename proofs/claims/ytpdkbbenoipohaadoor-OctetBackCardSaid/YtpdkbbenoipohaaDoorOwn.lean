/- A slice of bytes in a row of the call's own, marked or not: appending to it, from whatever source. -/
import Derived.Test.YtpdkbbenoipohaaDoorConv
import Derived.Deep.AppendSrc
import Derived.Deep.MidRow
import Derived.Laws.IdiomCopy
namespace Go.Proofs.YtpdkbbenoipohaaDoor
open Go.RowKit

def Own (w : World) (B : Nat) (v : Value) (n : Nat) (l : List UInt8) : Prop :=
  n = l.length ∧ ((v = .slice none 0 0 ∧ n = 0) ∨ ∃ g cap, v = .slice (some ⟨g, 0, none⟩) n cap ∧ B ≤ g ∧ g < w.heap.size ∧ n ≤ cap ∧ cap ≤ maxLen ∧
    (∀ j, j < cap → (w.cell? ⟨g, j, none⟩).isSome = true ∧ w.frozen? ⟨g, j, none⟩ = false) ∧ ∀ j, j < n → w.cell? ⟨g, j, none⟩ = some (.int .u8 ((l.getD j 0).toNat : Int)))

theorem Own.nil (w : World) (B : Nat) : Own w B (.slice none 0 0) 0 [] := ⟨rfl, .inl ⟨rfl, rfl⟩⟩
theorem Own.sl {w : World} {B n : Nat} {v : Value} {l : List UInt8} (h : Own w B v n l) : ∃ a cap, v = .slice a n cap ∧ Sl w a n cap l := by
  obtain ⟨h1, h2⟩ := h
  rcases h2 with ⟨rfl, h2⟩ | ⟨g, cap, rfl, _, _, hn, hm, _, hc⟩
  · exact ⟨none, 0, by rw [h2], ⟨h1, by omega, Nat.zero_le _, fun _ => rfl, .inl h2⟩⟩
  · exact ⟨_, cap, rfl, h1, hn, hm, (fun h => by cases h), .inr ⟨g, 0, rfl, fun i hi => by rw [Nat.zero_add]; exact hc i hi⟩⟩
theorem Own.after {w w' : World} {B n : Nat} {v : Value} {l : List UInt8} (h : Own w B v n l) (hb : Below w.heap.size w w') : Own w' B v n l := by
  obtain ⟨h1, h2⟩ := h
  refine ⟨h1, h2.imp id ?_⟩
  rintro ⟨g, cap, e, hg, hlt, hn, hm, hs, hc⟩
  exact ⟨g, cap, e, hg, Nat.lt_of_lt_of_le hlt hb.size, hn, hm, fun j hj => ⟨by rw [hb.cell (p := ⟨g, j, none⟩) hlt]; exact (hs j hj).1, by rw [hb.frozen (p := ⟨g, j, none⟩) hlt]; exact (hs j hj).2⟩, fun j hj => (hb.cell (p := ⟨g, j, none⟩) hlt).trans (hc j hj)⟩
theorem Own.lower {w : World} {B B' n : Nat} {v : Value} {l : List UInt8} (h : Own w B v n l) (hB : B' ≤ B) : Own w B' v n l := by
  obtain ⟨h1, h2⟩ := h
  refine ⟨h1, h2.imp id ?_⟩
  rintro ⟨g, cap, e, hg, r⟩
  exact ⟨g, cap, e, by omega, r⟩

theorem Own.of_cells {w : World} {B g n cap : Nat} {cur : Array Value} {fr : Nat × Nat} {l : List UInt8} (hg : B ≤ g) (hb : w.heap[g]? = some (.cells cur 5 fr)) (hf : fr = (0, 0) ∨ fr = (cur.size, cur.size + 1)) (hcs : cur.size = cap) (hn : n ≤ cap) (hm : cap ≤ maxLen)
    (hl : n = l.length) (hc : ∀ j, j < n → cur[j]? = some (.int .u8 ((l.getD j 0).toNat : Int))) : Own w B (.slice (some ⟨g, 0, none⟩) n cap) n l := by
  have hlt : g < w.heap.size := by
    rcases Nat.lt_or_ge g w.heap.size with h' | h'
    · exact h'
    · rw [Array.getElem?_eq_none h'] at hb; cases hb
  refine ⟨hl, .inr ⟨g, cap, rfl, hg, hlt, hn, hm, fun j hj => ⟨?_, ?_⟩, fun j hj => ?_⟩⟩
  · simp only [World.cell?, hb]; simp; omega
  · simp only [World.frozen?, hb]
    rcases hf with rfl | rfl <;> simp <;> omega
  · simp only [World.cell?, hb]; simpa using hc j hj
theorem Own.lit (w : World) (B : Nat) (hB : B ≤ w.heap.size) (c : UInt8) (z : Int) (hz : z = (c.toNat : Int)) : Own (w.alloc (.cells #[.int .u8 z] 5)) B (.slice (some ⟨w.heap.size, 0, none⟩) 1 1) 1 [c] := by
  subst hz
  refine Own.of_cells (fr := (0, 0)) (cur := #[.int .u8 (c.toNat : Int)]) hB (by simp [World.alloc, -World.alloc_eq]) (.inl rfl) rfl (Nat.le_refl _) (by unfold maxLen; omega) rfl (fun j hj => ?_)
  obtain rfl : j = 0 := by omega
  rfl
theorem Own.empty (w : World) (B : Nat) (hB : B ≤ w.heap.size) : Own (w.alloc (.cells #[] 5)) B (.slice (some ⟨w.heap.size, 0, none⟩) 0 0) 0 [] :=
  Own.of_cells (fr := (0, 0)) (cur := #[]) hB (by simp [World.alloc, -World.alloc_eq]) (.inl rfl) rfl (Nat.le_refl _) (Nat.zero_le _) rfl (fun j hj => absurd hj (Nat.not_lt_zero _))

/-- '[]byte(s)' -/
theorem conv_own (w : World) (s : ByteArray) (hs : s.size ≤ 140737488355328) (B : Nat) (hB : B ≤ w.heap.size) : ∃ v w', (convert 9 22 (.string s)).run Tryd.prog w = .ok v w' ∧ Own w' B v s.size s.data.toList ∧ Below w.heap.size w w' := by
  have hsz : (Lib.bytesCells w 5 s).size = grownCap w s.size 0 5 := by
    have := grownCap_ge w s.size 0 5
    simp [Lib.bytesCells]
    have : s.data.size = s.size := rfl
    omega
  obtain ⟨c, w', h1, _, _, _, hb⟩ := conv_str w s hs
  have h2 := Lib.run_convert_string_bytes w 9 22 5 s Tryd.underlying9 Tryd.underlying22 Tryd.underlying5
  rw [h1] at h2
  obtain ⟨e1, e2⟩ : Value.slice (some ⟨w.heap.size, 0, none⟩) s.size c = .slice (some ⟨w.heap.size, 0, none⟩) s.size (grownCap w s.size 0 5) ∧ w' = Lib.bytesWorld w 5 s := by simpa using h2
  refine ⟨_, _, h1, ?_, hb⟩
  rw [e1, e2]
  refine Own.of_cells (cur := Lib.bytesCells w 5 s) hB (Lib.bytesWorld_at_new w 5 s) (.inr rfl) hsz (grownCap_ge _ _ _ _) (grownCap_le_maxLen _ _ _ _ (by unfold maxLen; omega)) (by simp) (fun j hj => ?_)
  have hj2 : j < s.data.toList.length := by simpa using hj
  simp [Lib.bytesCells, Array.getElem?_append, hj, List.getD_eq_getElem?_getD]

theorem src_sl {w : World} {a : Option Addr} {m c : Nat} {l : List UInt8} (h : Sl w a m c l) : Src Tryd.prog 1 22 (.slice a m c) m (Lib.byteCells l) w := by
  obtain ⟨h1, h2, h3, h5, h4⟩ := h
  cases a with
  | none =>
    have hc := h5 rfl
    subst hc
    obtain rfl : m = 0 := by omega
    have : l = [] := List.eq_nil_of_length_eq_zero h1.symm
    subst this
    exact Src.ofNil w Tryd.underlying22 0
  | some ad =>
    refine Src.ofSlice w Tryd.underlying22 ad m c _ (by simp [Lib.byteCells, h1]) ?_ ?_
    · intro j u hj
      rcases h4 with h4 | ⟨b, o', e', h4⟩
      · have hl2 : l = [] := List.eq_nil_of_length_eq_zero (by omega)
        subst hl2
        simp [Lib.byteCells] at hj
      · obtain rfl := Option.some.inj e'
        have hlt : j < l.length := by
          rcases Nat.lt_or_ge j l.length with h' | h'
          · exact h'
          · simp [Lib.byteCells, List.getElem?_eq_none h'] at hj
        simp [Lib.byteCells, hlt] at hj
        rw [Addr.add_lit, h4 j (by omega), ← hj]
        simp [List.getD_eq_getElem?_getD, hlt]
    · intro u hu
      obtain ⟨_, _, rfl⟩ := List.mem_map.1 hu
      rfl
theorem src_str (w : World) (l : List UInt8) : Src Tryd.prog 1 9 (.string ⟨l.toArray⟩) l.length (Lib.byteCells l) w := by
  have h := Src.ofString (P := Tryd.prog) w (tx := 9) Tryd.underlying9 ⟨l.toArray⟩
  have e1 : (⟨l.toArray⟩ : ByteArray).size = l.length := by simp [ByteArray.size]
  have e2 : byteCells ⟨l.toArray⟩ = Lib.byteCells l := by simp [byteCells, Lib.byteCells]
  rw [e1, e2] at h
  exact h

theorem below_setCellsB {B b : Nat} {w0 : World} (hB : B ≤ b) : ∀ (vs : List Value) (o : Nat) (w : World), Below B w0 w → Below B w0 (w.setCells b o vs)
  | [], _, _, h => h
  | v :: vs, o, w, h => below_setCellsB hB vs (o + 1) (w.setCell ⟨b, o, none⟩ v) (h.setCell hB v)

theorem ownInfo5 : (Tryd.prog.info? 5).map (fun i => (i.zero, i.size, i.bytes)) = some (some (.int .u8 0), 1, 1) := by kernel_rfl
theorem info_three {P : Program} {e : TypeId} {z : Value} {size bytes : Nat} (h : (P.info? e).map (fun i => (i.zero, i.size, i.bytes)) = some (some z, size, bytes)) :
    ∃ i, P.info? e = some i ∧ i.zero = some z ∧ i.size = size ∧ i.bytes = bytes := by
  obtain ⟨i, hi, hzz⟩ := Option.map_eq_some_iff.1 h
  simp only [Prod.mk.injEq] at hzz
  exact ⟨i, hi, hzz⟩

theorem own_append {w : World} {B n m : Nat} {v x : Value} {l l2 : List UInt8} {tx : TypeId} (ty : TypeId) (ho : Own w B v n l) (hs : Src Tryd.prog 1 tx x m (Lib.byteCells l2) w) (hB : B ≤ w.heap.size) (hnm : n + m ≤ 140737488355328) :
    ∃ v' w', (Builtin.append_ #[22, tx] ty #[v, x]).run Tryd.prog w = .ok v' w' ∧ Own w' B v' (n + m) (l ++ l2) ∧ Below B w w' := by
  obtain ⟨i, hi, hz, hsz, hby⟩ := info_three ownInfo5
  obtain ⟨hl, ho⟩ := ho
  have hm2 : m = l2.length := by have := hs.newsLen; simpa [Lib.byteCells] using this.symm
  have hlen : n + m = (l ++ l2).length := by rw [List.length_append]; omega
  have hsi : Src Tryd.prog i.size tx x m (Lib.byteCells l2) w := by rw [hsz]; exact hs
  have hmax : n + m ≤ maxLen := by unfold maxLen; omega
  have getApp : ∀ j, j < n + m → ((Lib.byteCells l ++ Lib.byteCells l2) : List Value)[j]? = some (.int .u8 (((l ++ l2).getD j 0).toNat : Int)) := by
    intro j hj
    rw [show Lib.byteCells l ++ Lib.byteCells l2 = Lib.byteCells (l ++ l2) by simp [Lib.byteCells]]
    have : j < (l ++ l2).length := by omega
    simp only [Lib.byteCells, List.getElem?_map, List.getD_eq_getElem?_getD, List.getElem?_eq_getElem this]
    simp
  -- a new row
  have grow : ∀ (base : Option Addr) (cap : Nat), v = .slice base n cap → (Builtin.firstCells 1 n (.slice base n cap)).run Tryd.prog w.drew = .ok (Lib.byteCells l).toArray w.drew → cap < n + m →
      ∃ v' w', (Builtin.append_ #[22, tx] ty #[v, x]).run Tryd.prog w = .ok v' w' ∧ Own w' B v' (n + m) (l ++ l2) ∧ Below B w w' := by
    intro base cap hv hf hcap
    have hr := run_append_grow_src (P := Tryd.prog) w 22 tx ty 5 i (.int .u8 0) Tryd.underlying22 hi hz base n cap (Lib.byteCells l) (by rw [hsz]; exact hf) x m (Lib.byteCells l2) hsi hcap (by omega) (growslice_fits hcap (by rw [hby]; omega))
    rw [← hv] at hr
    have hge := grownCap_ge w (n + m) cap 5
    have hcm := grownCap_le_maxLen w (n + m) cap 5 hmax
    refine ⟨_, _, hr, Own.of_cells (fr := (0, 0)) hB (heap_alloc_new w.drew _) (.inl rfl) ?_ hge hcm hlen (fun j hj => ?_), ((Below.refl B w).drew).alloc hB _⟩
    · have e3 : (Lib.byteCells l).length = n := by simp [Lib.byteCells, hl]
      have e4 : (Lib.byteCells l2).length = m := by simp [Lib.byteCells, hm2]
      have e5 : (Value.int .u8 0).cells.size = 1 := rfl
      simp only [Array.size_append, List.size_toArray, List.length_append, size_zeroCells, e3, e4, e5]
      omega
    · rw [Array.getElem?_append_left (by simp [Lib.byteCells]; omega)]
      simpa using getApp j hj
  rcases ho with ⟨rfl, rfl⟩ | ⟨g, cap, rfl, hg, hlt, hn, hcm, hc, hcc⟩
  · by_cases hm0 : m = 0
    · subst hm0
      have e2 : l2 = [] := List.eq_nil_of_length_eq_zero hm2.symm
      have e1 : l = [] := List.eq_nil_of_length_eq_zero hl.symm
      subst e1 e2
      refine ⟨.slice none 0 0, w, ?_, Own.nil w B, Below.refl _ _⟩
      rcases hs.kind with ⟨e', hk⟩ | hk <;> simp [Builtin.append_, run_underlying Tryd.underlying22, run_underlying hk, sizeOf, typeInfo, hi, hs.len, hsz, hs.cells]
    · have e1 : l = [] := List.eq_nil_of_length_eq_zero hl.symm
      exact grow none 0 rfl (by rw [e1]; exact run_firstCells_none w.drew 1 0 0 0) (by omega)
  · by_cases hr : n + m ≤ cap
    · have hl2 : (Lib.byteCells l2).length = m := by simp [Lib.byteCells, hm2]
      have hrun := run_append_room_src (P := Tryd.prog) w 22 tx ty 5 i Tryd.underlying22 hi g 0 n cap x m (Lib.byteCells l2) hsi hr
        (fun j hj => by rw [hsz, Nat.mul_one, Nat.zero_add]; exact (hc (n + j) (by omega)).1) (fun j hj => by rw [hsz, Nat.mul_one, Nat.zero_add]; exact (hc (n + j) (by omega)).2)
      rw [hsz, Nat.mul_one, Nat.zero_add] at hrun
      have hbel := below_setCellsB hg (Lib.byteCells l2) n w (Below.refl B w)
      refine ⟨_, _, hrun, ⟨hlen, .inr ⟨g, cap, rfl, hg, Nat.lt_of_lt_of_le hlt hbel.size, hr, hcm, fun j hj => ⟨?_, ?_⟩, fun j hj => ?_⟩⟩, hbel⟩
      · exact World.isSome_setCells g _ _ w _ (hc j hj).1
      · rw [World.frozen?_setCells]; exact (hc j hj).2
      · by_cases hjn : j < n
        · rw [World.cell?_setCells_out g _ n w _ (fun _ _ => .inl hjn), hcc j hjn]
          congr 3
          simp [List.getD_eq_getElem?_getD, List.getElem?_append_left (show j < l.length by omega)]
        · have hj2 : j - n < (Lib.byteCells l2).length := by omega
          have := World.cell?_setCells_in g (Lib.byteCells l2) n w (fun k hk => (hc (n + k) (by omega)).1) (j - n) hj2
          rw [show n + (j - n) = j by omega] at this
          rw [this]
          have hjl : j - n < l2.length := by omega
          simp only [Lib.byteCells, List.getElem_map]
          congr 3
          rw [List.getD_eq_getElem?_getD, List.getElem?_append_right (by omega), show j - l.length = j - n by omega, List.getElem?_eq_getElem hjl]
          rfl
    · refine grow (some ⟨g, 0, none⟩) cap rfl ?_ (by omega)
      refine run_firstCells_some w.drew 1 n ⟨g, 0, none⟩ n cap (Lib.byteCells l) (by simp [Lib.byteCells, hl]) (fun j u hj => ?_)
      have hjl : j < l.length := by
        rcases Nat.lt_or_ge j l.length with h' | h'
        · exact h'
        · simp [Lib.byteCells, List.getElem?_eq_none h'] at hj
      rw [Addr.add_lit, Nat.zero_add, show w.drew.cell? ⟨g, j, none⟩ = w.cell? ⟨g, j, none⟩ from rfl, hcc j (by omega)]
      simp [Lib.byteCells, hjl] at hj
      rw [← hj]
      simp [List.getD_eq_getElem?_getD, hjl]

theorem wpList_own_append {w : World} {ops : Array Oper} {rest : List Oper} {o : Oper} {a : Act} {Q : Exit → Act → World → Prop} (hgd : o.guard = none) (s x : Operand) (tx : TypeId)
    (ho : o.op = .call { callee := .builtin .append, args := #[s, x], argTypes := #[22, tx] })
    (B : Nat) (v xv : Value) (n m : Nat) (l l2 : List UInt8) (hs : a.eval s = v) (hx : a.eval x = xv) (hown : Own w B v n l) (hsrc : Src Tryd.prog 1 tx xv m (Lib.byteCells l2) w) (hB : B ≤ w.heap.size) (hnm : n + m ≤ 140737488355328)
    (h : ∀ v' w', Own w' B v' (n + m) (l ++ l2) → Below B w w' → wpList Tryd.prog ops Q rest (a.put o.dst v') w') : wpList Tryd.prog ops Q (o :: rest) a w :=
  wpList_plain hgd fun K hK => by
    obtain ⟨v', w', hrun, h1, h2⟩ := own_append (tx := tx) o.type hown hsrc hB hnm
    unfold Oper.wp
    simp [execOp, ho, resolve, invoke, builtin, hs, hx, hrun, Result.andThen]
    exact hK _ _ (h v' w' h1 h2)
end Go.Proofs.YtpdkbbenoipohaaDoor

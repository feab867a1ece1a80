/- Slices that the call itself has made, whatever their elements and wherever in a block: append. -/
import Derived.Test.YtcflgoddfakepaaDoorSx
import Derived.Deep.Upon
namespace Go.Proofs.YtcflgoddfakepaaDoor
open Go.RowKit

/-- a slice of the call's own: n elements of 'size' cells each, the cells xs; its room may be written -/
def OwnG (w : World) (B size : Nat) (v : Value) (n : Nat) (xs : List Value) : Prop :=
  xs.length = n * size ∧ ((v = .slice none 0 0 ∧ n = 0) ∨
    ∃ g o cap, v = .slice (some ⟨g, o, none⟩) n cap ∧ B ≤ g ∧ g < w.heap.size ∧ n ≤ cap ∧ cap ≤ maxLen ∧ w.there g o (cap * size) ∧ w.rangeAt g o xs)

variable {P : Program} {w w' : World} {B size : Nat} {v : Value} {n : Nat} {xs : List Value}

theorem OwnG.nil (w : World) (B size : Nat) : OwnG w B size (.slice none 0 0) 0 [] := ⟨by simp, .inl ⟨rfl, rfl⟩⟩
theorem OwnG.le {B' : Nat} (h : OwnG w B size v n xs) (hB : B' ≤ B) : OwnG w B' size v n xs := by
  refine ⟨h.1, ?_⟩
  rcases h.2 with h2 | ⟨g, o, cap, h2, h3, h4⟩
  · exact .inl h2
  · exact .inr ⟨g, o, cap, h2, Nat.le_trans hB h3, h4⟩
theorem OwnG.lt (h : OwnG w B size v n xs) : ∀ k, v.ownBlock = some k → B ≤ k ∧ k < w.heap.size := by
  intro k hk
  rcases h.2 with ⟨rfl, _⟩ | ⟨g, o, cap, rfl, h3, h4, _⟩
  · simp [Value.ownBlock] at hk
  · simp [Value.ownBlock] at hk
    subst hk
    exact ⟨h3, h4⟩
/-- the row's block is as it was -/
theorem OwnG.keep (h : OwnG w B size v n xs) (hz : w.heap.size ≤ w'.heap.size) (hk : ∀ g, v.ownBlock = some g → w'.heap[g]? = w.heap[g]?) : OwnG w' B size v n xs := by
  refine ⟨h.1, ?_⟩
  rcases h.2 with h2 | ⟨g, o, cap, rfl, h3, h4, h5, h6, h7, h8⟩
  · exact .inl h2
  · have hb := hk g rfl
    refine .inr ⟨g, o, cap, rfl, h3, Nat.lt_of_lt_of_le h4 hz, h5, h6, fun j hj => ?_, fun j u hu => ?_⟩
    · rw [World.cell?_of_block (a := ⟨g, o + j, none⟩) hb, World.frozen?_of_block (a := ⟨g, o + j, none⟩) hb]; exact h7 j hj
    · rw [World.cell?_of_block (a := ⟨g, o + j, none⟩) hb]; exact h8 j u hu
theorem OwnG.after (h : OwnG w B size v n xs) (hb : Below w.heap.size w w') : OwnG w' B size v n xs :=
  h.keep hb.size fun g hg => hb.block g (h.lt g hg).2
theorem OwnG.drew (h : OwnG w B size v n xs) : OwnG w.drew B size v n xs := h.keep (Nat.le_refl _) fun _ _ => rfl
theorem OwnG.alloc (h : OwnG w B size v n xs) (o : Obj) : OwnG (w.alloc o) B size v n xs := h.after ((Below.refl _ _).alloc (Nat.le_refl _) _)
/-- another row has grown -/
theorem OwnG.grown (h : OwnG w B size v n xs) {row : Option Nat} (hg : w.grownBy w' row) (hne : v.ownBlock = none ∨ v.ownBlock ≠ row) : OwnG w' B size v n xs :=
  h.keep hg.size fun g hv => hg.block g (h.lt g hv).2 (by rw [← hv]; rcases hne with e | e; · rw [e] at hv; cases hv
                                                          · exact e)

/-- n elements whose cells may be written: a part of an array that was made -/
theorem OwnG.made (h1 : xs.length = n * size) {g o cap : Nat} (h3 : B ≤ g) (h4 : g < w.heap.size) (h5 : n ≤ cap) (h6 : cap ≤ maxLen) (h7 : w.there g o (cap * size)) (h8 : w.rangeAt g o xs) : OwnG w B size (.slice (some ⟨g, o, none⟩) n cap) n xs :=
  ⟨h1, .inr ⟨g, o, cap, rfl, h3, h4, h5, h6, h7, h8⟩⟩

/-- a whole new block -/
theorem OwnG.new (w : World) (B size : Nat) (hB : B ≤ w.heap.size) (cur : Array Value) (e : TypeId) (n cap : Nat) (hn : n ≤ cap) (hc : cap ≤ maxLen) (hs : cur.size = cap * size) :
    OwnG (w.alloc (.cells cur e)) B size (.slice (some ⟨w.heap.size, 0, none⟩) n cap) n (cur.toList.take (n * size)) := by
  have hb : (w.alloc (.cells cur e)).heap[w.heap.size]? = some (.cells cur e (0, 0)) := heap_alloc_new _ _
  have hle := Nat.mul_le_mul_right size hn
  refine .made (by simp; omega) hB (by simp) hn hc (fun j hj => ?_) (fun j u hu => ?_)
  · rw [Nat.zero_add]
    exact ⟨by rw [cell_of_row _ _ j cur e _ hb]; simp; omega, frozen_of_row _ _ j cur e hb⟩
  · rw [Nat.zero_add, cell_of_row _ _ j cur e _ hb]
    rw [List.getElem?_take] at hu
    split at hu
    · simpa using hu
    · cases hu

theorem tape_setCells (g : Nat) : ∀ (vs : List Value) (o : Nat) (w : World), (w.setCells g o vs).tape = w.tape
  | [], _, _ => rfl
  | v :: vs, o, w => by
    rw [show w.setCells g o (v :: vs) = (w.setCell ⟨g, o, none⟩ v).setCells g (o + 1) vs from rfl, tape_setCells g vs (o + 1)]
    rfl
theorem size_setCells (g : Nat) : ∀ (vs : List Value) (o : Nat) (w : World), (w.setCells g o vs).heap.size = w.heap.size
  | [], _, _ => rfl
  | v :: vs, o, w => by
    rw [show w.setCells g o (v :: vs) = (w.setCell ⟨g, o, none⟩ v).setCells g (o + 1) vs from rfl, size_setCells g vs (o + 1)]
    simp
theorem grownBy_setCells (w : World) (g o : Nat) (vs : List Value) : w.grownBy (w.setCells g o vs) (some g) :=
  ⟨World.os_setCells w g o vs, tape_setCells g vs o w, World.output_setCells w g o vs, Nat.le_of_eq (size_setCells g vs o w).symm, fun k hk hne => World.heap_setCells_other w g o vs hk (fun e => hne (by rw [e]))⟩

theorem OwnG.append (t tx ty e : TypeId) (i : TypeInfo) (z : Value) (bytes : Nat) (ht : P.underlying t = some (.slice e)) (hi : P.info? e = some i) (hz : i.zero = some z) (hsize : i.size = size) (hby : i.bytes = bytes) (hzs : z.cells.size = size) (hsz : 0 < size)
    (h : OwnG w B size v n xs) (x : Value) (m : Nat) (news : List Value) (hs : Src P size tx x m news w) (h63 : n + m ≤ maxLen) (hbytes : (n + m) * bytes ≤ 140737488355328) (hB : B ≤ w.heap.size) :
    ∃ v' w', (Builtin.append_ #[t, tx] ty #[v, x]).run P w = .ok v' w' ∧ OwnG w' B size v' (n + m) (xs ++ news) ∧ w.grownBy w' v.ownBlock ∧ ∀ k, v'.ownBlock = some k → v.ownBlock = some k ∨ w.heap.size ≤ k := by
  subst hsize
  subst hby
  have hlen : (xs ++ news).length = (n + m) * i.size := by rw [List.length_append, h.1, hs.newsLen, Nat.add_mul]
  have hsmall : ((n + m : Nat) : Int) ≤ 9223372036854775807 := by simp only [maxLen] at h63; omega
  have grown : ∀ old, ∀ (row : Option Nat),
      OwnG (w.drew.alloc (.cells ((xs ++ news).toArray ++ Builtin.zeroCells z.cells (grownCap w (n + m) old e - (n + m))) e)) B i.size (.slice (some ⟨w.heap.size, 0, none⟩) (n + m) (grownCap w (n + m) old e)) (n + m) (xs ++ news) ∧
      w.grownBy (w.drew.alloc (.cells ((xs ++ news).toArray ++ Builtin.zeroCells z.cells (grownCap w (n + m) old e - (n + m))) e)) row := by
    intro old row
    have hge := grownCap_ge w (n + m) old e
    have hcm : grownCap w (n + m) old e ≤ maxLen := grownCap_le_maxLen w (n + m) old e h63
    refine ⟨?_, ⟨rfl, rfl, rfl, by simp, fun k hk _ => heap_alloc_old w.drew _ hk⟩⟩
    have := OwnG.new w.drew B i.size hB ((xs ++ news).toArray ++ Builtin.zeroCells z.cells (grownCap w (n + m) old e - (n + m))) e (n + m) (grownCap w (n + m) old e) hge hcm (by
      simp only [Array.size_append, List.size_toArray, size_zeroCells, hzs, hlen, ← Nat.add_mul]
      congr 1
      omega)
    rw [show ((xs ++ news).toArray ++ Builtin.zeroCells z.cells (grownCap w (n + m) old e - (n + m))).toList.take ((n + m) * i.size) = xs ++ news by
      rw [Array.toList_append, ← hlen]
      exact List.take_left] at this
    exact this
  rcases h.2 with ⟨rfl, rfl⟩ | ⟨g, o, cap, rfl, h3, h4, h5, h6, h7, h8⟩
  · have hx : xs = [] := List.eq_nil_of_length_eq_zero (by simpa using h.1)
    subst hx
    by_cases hm : m = 0
    · subst hm
      have hn : news = [] := List.eq_nil_of_length_eq_zero (by simpa using hs.newsLen)
      subst hn
      exact ⟨_, _, run_append_nothing w t tx ty e i ht hi none 0 0 (Nat.le_refl _) x hs, OwnG.nil w B i.size, World.grownBy.refl w _, fun k hk => .inl hk⟩
    · have hr := run_append_grow_src w t tx ty e i z ht hi hz none 0 0 [] (run_firstCells_none w.drew i.size 0 0 0) x m news hs (by omega) hsmall (growslice_fits (by omega) hbytes)
      have hg := grown 0 (Value.ownBlock (.slice none 0 0))
      exact ⟨_, _, hr, hg.1, hg.2, fun k hk => .inr (by simp [Value.ownBlock] at hk; omega)⟩
  · by_cases hroom : n + m ≤ cap
    · have hle : n * i.size + news.length ≤ cap * i.size := by rw [hs.newsLen, ← Nat.add_mul]; exact Nat.mul_le_mul_right _ hroom
      have hr := run_append_room_src w t tx ty e i ht hi g o n cap x m news hs hroom (fun j hj => by have := (h7 (n * i.size + j) (by omega)).1; rwa [← Nat.add_assoc] at this) (fun j hj => by have := (h7 (n * i.size + j) (by omega)).2; rwa [← Nat.add_assoc] at this)
      refine ⟨_, _, hr, .made hlen h3 (by rw [size_setCells]; exact h4) hroom h6 (World.there_setCells h7 _ _ _) (fun j u hu => ?_), grownBy_setCells _ _ _ _, fun k hk => .inl hk⟩
      rw [List.getElem?_append] at hu
      split at hu
      · rename_i hlt
        exact World.rangeAt_setCells_apart h8 g (o + n * i.size) news (.inr (.inl (by rw [h.1]; exact Nat.le_refl _))) j u hu
      · rename_i hge
        have hthere : w.there g (o + n * i.size) news.length := fun j hj => by have := h7 (n * i.size + j) (by omega); rwa [← Nat.add_assoc] at this
        have := World.rangeAt_setCells_same w g (o + n * i.size) news hthere (j - xs.length) u hu
        rw [h.1] at this hge
        rwa [show o + n * i.size + (j - n * i.size) = o + j by omega] at this
    · have hr := run_append_grow_src w t tx ty e i z ht hi hz (some ⟨g, o, none⟩) n cap xs (run_firstCells_some w.drew i.size n ⟨g, o, none⟩ n cap xs h.1 (fun j u hu => by rw [Addr.add_mid]; simpa using h8 j u hu)) x m news hs (by omega) hsmall (growslice_fits (by omega) hbytes)
      have hg := grown cap (Value.ownBlock (.slice (some ⟨g, o, none⟩) n cap))
      exact ⟨_, _, hr, hg.1, hg.2, fun k hk => .inr (by simp [Value.ownBlock] at hk; omega)⟩

theorem wp_append_G {o : Oper} {a : Act} {K : Act → World → Prop} {Q : Exit → Act → World → Prop} (s x : Operand) (t tx : TypeId)
    (ho : o.op = .call { callee := .builtin .append, args := #[s, x], argTypes := #[t, tx] }) (e : TypeId) (i : TypeInfo) (z : Value) (bytes : Nat) (ht : P.underlying t = some (.slice e)) (hi : P.info? e = some i) (hz : i.zero = some z) (hsize : i.size = size) (hby : i.bytes = bytes) (hzs : z.cells.size = size) (hsz : 0 < size)
    (hs : a.eval s = v) (h : OwnG w B size v n xs) (xv : Value) (hx : a.eval x = xv) (m : Nat) (news : List Value) (hsrc : Src P size tx xv m news w) (h63 : n + m ≤ maxLen) (hbytes : (n + m) * bytes ≤ 140737488355328) (hB : B ≤ w.heap.size)
    (hk : ∀ v' w', OwnG w' B size v' (n + m) (xs ++ news) → w.grownBy w' v.ownBlock → (∀ k, v'.ownBlock = some k → v.ownBlock = some k ∨ w.heap.size ≤ k) → K (a.put o.dst v') w') : o.wp P a w K Q := by
  obtain ⟨v', w', hr, h2, h3, h4⟩ := OwnG.append t tx o.type e i z bytes ht hi hz hsize hby hzs hsz h xv m news hsrc h63 hbytes hB
  unfold Oper.wp execOp
  simp only [ho, resolve, invoke, builtin, Sem.run_bind, Sem.run_pure, Result.andThen_ok, List.map_toArray, List.map_cons, List.map_nil, hs, hx, hr]
  exact hk v' w' h2 h3 h4

/-- a slice of bytes of the call's own, that reads as a list -/
def OwnB (w : World) (B : Nat) (v : Value) (l : List UInt8) : Prop := OwnG w B 1 v l.length (Lib.byteCells l)
theorem OwnB.nil (w : World) (B : Nat) : OwnB w B (.slice none 0 0) [] := OwnG.nil w B 1
theorem OwnB.sl {l : List UInt8} (h : OwnB w B v l) : ∃ a c, v = .slice a l.length c ∧ Sl w a l.length c l := by
  rcases h.2 with ⟨rfl, hl⟩ | ⟨g, o, cap, rfl, h3, h4, h5, h6, h7, h8⟩
  · have : l = [] := List.eq_nil_of_length_eq_zero hl
    subst this
    exact ⟨none, 0, rfl, rfl, Nat.le_refl _, Nat.zero_le _, fun _ => rfl, .inl rfl⟩
  · refine ⟨_, _, rfl, rfl, h5, h6, (fun h => by cases h), .inr ⟨g, o, rfl, fun i hi => h8 i _ ?_⟩⟩
    simp [Lib.byteCells, List.getD_eq_getElem?_getD, hi]
theorem OwnB.own {l : List UInt8} (h : OwnB w B v l) : ∀ k, v.ownBlock = some k → B ≤ k ∧ k < w.heap.size := OwnG.lt h
theorem OwnB.after {l : List UInt8} (h : OwnB w B v l) (hb : Below w.heap.size w w') : OwnB w' B v l := OwnG.after h hb
theorem OwnB.le {B' : Nat} {l : List UInt8} (h : OwnB w B v l) (hB : B' ≤ B) : OwnB w B' v l := OwnG.le h hB
theorem Sl.src {a : Option Addr} {m c : Nat} {l : List UInt8} (h : Sl w a m c l) {t e : TypeId} (ht : P.underlying t = some (.slice e)) : Src P 1 t (.slice a m c) m (Lib.byteCells l) w := by
  obtain ⟨h1, h2, h3, h5, h4⟩ := h
  cases a with
  | none =>
    have hc := h5 rfl
    subst hc
    obtain rfl : m = 0 := by omega
    have hl2 : l = [] := List.eq_nil_of_length_eq_zero h1.symm
    subst hl2
    exact Src.ofNil w ht 0
  | some ad =>
    refine Src.ofSlice w ht ad m c _ (by simp [Lib.byteCells, h1]) (fun j u hj => ?_) (fun u hu => ?_)
    · rcases h4 with h4 | ⟨b, o', e', h4⟩
      · have hl2 : l = [] := List.eq_nil_of_length_eq_zero (by omega)
        subst hl2
        simp [Lib.byteCells] at hj
      · obtain rfl := Option.some.inj e'
        have hlt : j < l.length := by
          rcases Nat.lt_or_ge j l.length with h' | h'
          · exact h'
          · simp [Lib.byteCells, List.getElem?_eq_none h'] at hj
        simp [Lib.byteCells, hlt] at hj
        rw [Addr.add_lit, h4 j (by omega), ← hj]
        simp [List.getD_eq_getElem?_getD, hlt]
    · obtain ⟨_, _, rfl⟩ := List.mem_map.1 hu
      rfl

theorem infoU8G : (Tryd.prog.info? 5).map (fun i => (i.zero, i.size, i.bytes)) = some (some (.int .u8 0), 1, 1) := by kernel_rfl

/-- 'append(out, x...)' of bytes: out the call's own -/
theorem wp_append_B3 {o : Oper} {a : Act} {K : Act → World → Prop} {Q : Exit → Act → World → Prop} (s x : Operand)
    (ho : o.op = .call { callee := .builtin .append, args := #[s, x], argTypes := #[22, 22] })
    {l : List UInt8} (hs : a.eval s = v) (h : OwnB w B v l) {ax : Option Addr} {m c : Nat} {l2 : List UInt8} (hx : a.eval x = .slice ax m c) (hsl : Sl w ax m c l2) (hbytes : l.length + m ≤ 140737488355328) (hB : B ≤ w.heap.size)
    (hk : ∀ v' w', OwnB w' B v' (l ++ l2) → w.grownBy w' v.ownBlock → (∀ k, v'.ownBlock = some k → v.ownBlock = some k ∨ w.heap.size ≤ k) → K (a.put o.dst v') w') : o.wp Tryd.prog a w K Q := by
  obtain ⟨i0, hi, hi2⟩ := Option.map_eq_some_iff.1 infoU8G
  simp only [Prod.mk.injEq] at hi2
  obtain ⟨hz0, hz1, hz2⟩ := hi2
  refine wp_append_G s x 22 22 ho 5 i0 (.int .u8 0) 1 Tryd.underlying22 hi hz0 hz1 hz2 rfl (by decide) hs h _ hx m _ (hsl.src Tryd.underlying22) (by unfold maxLen; omega) (by omega) hB (fun v' w' h1 h2 h3 => hk v' w' ?_ h2 h3)
  rw [byteCells_append, hsl.1] at h1
  unfold OwnB
  rw [List.length_append]
  exact h1
theorem wp_append_B {o : Oper} {a : Act} {K : Act → World → Prop} {Q : Exit → Act → World → Prop} (s x : Operand)
    (ho : o.op = .call { callee := .builtin .append, args := #[s, x], argTypes := #[22, 22] })
    {l : List UInt8} (hs : a.eval s = v) (h : OwnB w B v l) {ax : Option Addr} {m c : Nat} {l2 : List UInt8} (hx : a.eval x = .slice ax m c) (hsl : Sl w ax m c l2) (hbytes : l.length + m ≤ 140737488355328) (hB : B ≤ w.heap.size)
    (hk : ∀ v' w', OwnB w' B v' (l ++ l2) → w.grownBy w' v.ownBlock → K (a.put o.dst v') w') : o.wp Tryd.prog a w K Q :=
  wp_append_B3 s x ho hs h hx hsl hbytes hB fun v' w' h1 h2 _ => hk v' w' h1 h2
theorem wpList_append_B {ops : Array Oper} {rest : List Oper} {o : Oper} {a : Act} {Q : Exit → Act → World → Prop} (hgd : o.guard = none) (s x : Operand)
    (ho : o.op = .call { callee := .builtin .append, args := #[s, x], argTypes := #[22, 22] })
    {l : List UInt8} (hs : a.eval s = v) (h : OwnB w B v l) {ax : Option Addr} {m c : Nat} {l2 : List UInt8} (hx : a.eval x = .slice ax m c) (hsl : Sl w ax m c l2) (hbytes : l.length + m ≤ 140737488355328) (hB : B ≤ w.heap.size)
    (hk : ∀ v' w', OwnB w' B v' (l ++ l2) → w.grownBy w' v.ownBlock → wpList Tryd.prog ops Q rest (a.put o.dst v') w') : wpList Tryd.prog ops Q (o :: rest) a w :=
  wpList_plain hgd fun _ hK => wp_append_B s x ho hs h hx hsl hbytes hB fun v' w' h1 h2 => hK _ _ (hk v' w' h1 h2)
theorem wpList_append_B3 {ops : Array Oper} {rest : List Oper} {o : Oper} {a : Act} {Q : Exit → Act → World → Prop} (hgd : o.guard = none) (s x : Operand)
    (ho : o.op = .call { callee := .builtin .append, args := #[s, x], argTypes := #[22, 22] })
    {l : List UInt8} (hs : a.eval s = v) (h : OwnB w B v l) {ax : Option Addr} {m c : Nat} {l2 : List UInt8} (hx : a.eval x = .slice ax m c) (hsl : Sl w ax m c l2) (hbytes : l.length + m ≤ 140737488355328) (hB : B ≤ w.heap.size)
    (hk : ∀ v' w', OwnB w' B v' (l ++ l2) → w.grownBy w' v.ownBlock → (∀ k, v'.ownBlock = some k → v.ownBlock = some k ∨ w.heap.size ≤ k) → wpList Tryd.prog ops Q rest (a.put o.dst v') w') : wpList Tryd.prog ops Q (o :: rest) a w :=
  wpList_plain hgd fun _ hK => wp_append_B3 s x ho hs h hx hsl hbytes hB fun v' w' h1 h2 h3 => hK _ _ (hk v' w' h1 h2 h3)

/-- 'append(out, s...)' of a string's bytes -/
theorem wp_append_S3 {o : Oper} {a : Act} {K : Act → World → Prop} {Q : Exit → Act → World → Prop} (s x : Operand)
    (ho : o.op = .call { callee := .builtin .append, args := #[s, x], argTypes := #[22, 9] })
    {l : List UInt8} (hs : a.eval s = v) (h : OwnB w B v l) {l2 : List UInt8} (hx : a.eval x = .string ⟨l2.toArray⟩) (hbytes : l.length + l2.length ≤ 140737488355328) (hB : B ≤ w.heap.size)
    (hk : ∀ v' w', OwnB w' B v' (l ++ l2) → w.grownBy w' v.ownBlock → (∀ k, v'.ownBlock = some k → v.ownBlock = some k ∨ w.heap.size ≤ k) → K (a.put o.dst v') w') : o.wp Tryd.prog a w K Q := by
  obtain ⟨i0, hi, hi2⟩ := Option.map_eq_some_iff.1 infoU8G
  simp only [Prod.mk.injEq] at hi2
  obtain ⟨hz0, hz1, hz2⟩ := hi2
  have hsrc := Src.ofString (P := Tryd.prog) (w := w) Tryd.underlying9 ⟨l2.toArray⟩
  rw [show (⟨l2.toArray⟩ : ByteArray).size = l2.length by simp [ByteArray.size], show byteCells ⟨l2.toArray⟩ = Lib.byteCells l2 from rfl] at hsrc
  refine wp_append_G s x 22 9 ho 5 i0 (.int .u8 0) 1 Tryd.underlying22 hi hz0 hz1 hz2 rfl (by decide) hs h _ hx _ _ hsrc (by unfold maxLen; omega) (by omega) hB (fun v' w' h1 h2 h3 => hk v' w' ?_ h2 h3)
  rw [byteCells_append] at h1
  unfold OwnB
  rw [List.length_append]
  exact h1
theorem wp_append_S {o : Oper} {a : Act} {K : Act → World → Prop} {Q : Exit → Act → World → Prop} (s x : Operand)
    (ho : o.op = .call { callee := .builtin .append, args := #[s, x], argTypes := #[22, 9] })
    {l : List UInt8} (hs : a.eval s = v) (h : OwnB w B v l) {l2 : List UInt8} (hx : a.eval x = .string ⟨l2.toArray⟩) (hbytes : l.length + l2.length ≤ 140737488355328) (hB : B ≤ w.heap.size)
    (hk : ∀ v' w', OwnB w' B v' (l ++ l2) → w.grownBy w' v.ownBlock → K (a.put o.dst v') w') : o.wp Tryd.prog a w K Q :=
  wp_append_S3 s x ho hs h hx hbytes hB fun v' w' h1 h2 _ => hk v' w' h1 h2
theorem wpList_append_S {ops : Array Oper} {rest : List Oper} {o : Oper} {a : Act} {Q : Exit → Act → World → Prop} (hgd : o.guard = none) (s x : Operand)
    (ho : o.op = .call { callee := .builtin .append, args := #[s, x], argTypes := #[22, 9] })
    {l : List UInt8} (hs : a.eval s = v) (h : OwnB w B v l) {l2 : List UInt8} (hx : a.eval x = .string ⟨l2.toArray⟩) (hbytes : l.length + l2.length ≤ 140737488355328) (hB : B ≤ w.heap.size)
    (hk : ∀ v' w', OwnB w' B v' (l ++ l2) → w.grownBy w' v.ownBlock → wpList Tryd.prog ops Q rest (a.put o.dst v') w') : wpList Tryd.prog ops Q (o :: rest) a w :=
  wpList_plain hgd fun _ hK => wp_append_S s x ho hs h hx hbytes hB fun v' w' h1 h2 => hK _ _ (hk v' w' h1 h2)
theorem wpList_append_S3 {ops : Array Oper} {rest : List Oper} {o : Oper} {a : Act} {Q : Exit → Act → World → Prop} (hgd : o.guard = none) (s x : Operand)
    (ho : o.op = .call { callee := .builtin .append, args := #[s, x], argTypes := #[22, 9] })
    {l : List UInt8} (hs : a.eval s = v) (h : OwnB w B v l) {l2 : List UInt8} (hx : a.eval x = .string ⟨l2.toArray⟩) (hbytes : l.length + l2.length ≤ 140737488355328) (hB : B ≤ w.heap.size)
    (hk : ∀ v' w', OwnB w' B v' (l ++ l2) → w.grownBy w' v.ownBlock → (∀ k, v'.ownBlock = some k → v.ownBlock = some k ∨ w.heap.size ≤ k) → wpList Tryd.prog ops Q rest (a.put o.dst v') w') : wpList Tryd.prog ops Q (o :: rest) a w :=
  wpList_plain hgd fun _ hK => wp_append_S3 s x ho hs h hx hbytes hB fun v' w' h1 h2 h3 => hK _ _ (hk v' w' h1 h2 h3)

/-- memory made, and the blocks of a set touched -/
structure But (S : Nat → Prop) (w w' : World) : Prop where
  os : w'.os = w.os
  tape : w'.tape = w.tape
  output : w'.output = w.output
  size : w.heap.size ≤ w'.heap.size
  block : ∀ k, k < w.heap.size → ¬ S k → w'.heap[k]? = w.heap[k]?

section
variable {S T : Nat → Prop} {w1 w2 w3 : World}
theorem But.refl (S : Nat → Prop) (w : World) : But S w w := ⟨rfl, rfl, rfl, Nat.le_refl _, fun _ _ _ => rfl⟩
theorem But.trans (h : But S w1 w2) (h' : But T w2 w3) (hT : ∀ k, T k → S k ∨ w1.heap.size ≤ k) : But S w1 w3 :=
  ⟨h'.os.trans h.os, h'.tape.trans h.tape, h'.output.trans h.output, Nat.le_trans h.size h'.size, fun k hk hS =>
    (h'.block k (Nat.lt_of_lt_of_le hk h.size) (fun hT' => (hT k hT').elim hS (fun e => by omega))).trans (h.block k hk hS)⟩
theorem But.mono (h : But S w1 w2) (hT : ∀ k, S k → T k) : But T w1 w2 := ⟨h.os, h.tape, h.output, h.size, fun k hk hS => h.block k hk fun e => hS (hT k e)⟩
theorem But.drew (h : But S w1 w2) : But S w1 w2.drew := ⟨h.os, h.tape, h.output, h.size, h.block⟩
theorem But.alloc (h : But S w1 w2) (o : Obj) : But S w1 (w2.alloc o) :=
  ⟨h.os, h.tape, h.output, by have := h.size; simp; omega, fun k hk hS => (Below.heap_alloc w2 o k (Nat.lt_of_lt_of_le hk h.size)).trans (h.block k hk hS)⟩
theorem But.setCell (h : But S w1 w2) {p : Addr} (hp : S p.block ∨ w1.heap.size ≤ p.block) (u : Value) : But S w1 (w2.setCell p u) :=
  ⟨h.os, h.tape, h.output, by have := h.size; simpa using this, fun k hk hS =>
    (Below.heap_setCell w2 p u k (fun e => hp.elim (fun e' => hS (e ▸ e')) (fun e' => by omega))).trans (h.block k hk hS)⟩
theorem But.ofBelow (h : Below w1.heap.size w1 w2) : But S w1 w2 := ⟨h.os, h.tape, h.output, h.size, fun k hk _ => h.block k hk⟩
theorem But.ofGrown {row : Option Nat} (h : w1.grownBy w2 row) (hS : ∀ k, row = some k → S k) : But S w1 w2 := ⟨h.os, h.tape, h.output, h.size, fun k hk hn => h.block k hk fun e => hn (hS k e.symm)⟩
theorem But.below (h : But S w1 w2) {B : Nat} (hB : B ≤ w1.heap.size) (hS : ∀ k, S k → B ≤ k) : Below B w1 w2 :=
  ⟨h.os, h.tape, h.output, h.size, fun k hk => h.block k (by omega) fun e => by have := hS k e; omega⟩
theorem But.ofStored {g : Nat} (h : Stored w1 w2 g) (hb : Below 0 w1 w2) : But (fun k => k = g) w1 w2 := ⟨hb.os, hb.tape, hb.output, hb.size, fun k _ hk => h.other k hk⟩
/-- what touches the set alone, behind a Below -/
theorem But.after {B : Nat} {w0 : World} (h0 : Below B w0 w1) (h : But S w1 w2) (hB : B ≤ w1.heap.size) (hS : ∀ k, S k → B ≤ k) : Below B w0 w2 :=
  h0.trans (h.below hB hS)
theorem But.box {g : Nat} {T : TypeId} {cs : Array Value} (h : But S w1 w2) (hb : Box w1 g T cs) (hg : ¬ S g) : Box w2 g T cs := (h.block g hb.lt hg).trans hb
theorem OwnG.but {B size n : Nat} {v : Value} {xs : List Value} (h : OwnG w1 B size v n xs) (hb : But S w1 w2) (hg : ∀ k, v.ownBlock = some k → ¬ S k) : OwnG w2 B size v n xs :=
  h.keep hb.size fun g hv => hb.block g (h.lt g hv).2 (hg g hv)
theorem Sl.but {a : Option Addr} {n c : Nat} {l : List UInt8} (h : Sl w1 a n c l) (hb : But S w1 w2) {ok : Nat → Prop} (hi : InB ok a n) (hok : ∀ k, ok k → ¬ S k) : Sl w2 a n c l := by
  rcases hi with hi | hi
  · exact h.keep (.inl hi)
  · rcases h.inB with h0 | h0
    · exact h.keep (.inl h0)
    · exact h.keep (.inr fun b o s e => hb.block b (h0 b o s e) (hok b (hi b o s e)))
theorem RowAt.but {a : Option Addr} {n c : Nat} {K : Nat → SV} (h : RowAt w1 a n c K) (hb : But S w1 w2) {ok : Nat → Prop} (hi : InB ok a n) (hok : ∀ k, ok k → ¬ S k) : RowAt w2 a n c K := by
  rcases hi with hi | hi
  · exact h.keep (.inl hi)
  · rcases h.lt with h0 | h0
    · exact h.keep (.inl h0)
    · exact h.keep (.inr fun b o s e => hb.block b (h0 b o s e) (hok b (hi b o s e)))
theorem RdI.but {ok : Nat → Prop} {v : SV} {s : Sx} (h : RdI ok w1 v s) (hb : But S w1 w2) (hok : ∀ k, ok k → ¬ S k) : RdI ok w2 v s :=
  (h.there.keep fun b hb' => hb.block b hb'.2 (hok b hb'.1)).mono fun _ h => h.1
end

/-- '[]byte(s)' -/
theorem conv_own (w : World) (s : ByteArray) (hs : s.size ≤ 140737488355328) : ∃ v w', (convert 9 22 (.string s)).run Tryd.prog w = .ok v w' ∧ OwnB w' w.heap.size v s.data.toList ∧ Below w.heap.size w w' := by
  obtain ⟨c, w', hr, hb, hn, hm, hB⟩ := conv_str w s hs
  refine ⟨_, w', hr, ?_, hB⟩
  have hr' := hr
  rw [Lib.run_convert_string_bytes w 9 22 5 s Tryd.underlying9 Tryd.underlying22 Tryd.underlying5] at hr'
  injection hr' with h1 h2
  injection h1 with _ _ hc
  have hnew := Lib.bytesWorld_at_new w 5 s
  rw [h2] at hnew
  have hsz : (Lib.bytesCells w 5 s).size = c := by
    rw [← hc]
    have := grownCap_ge w s.size 0 5
    simp [Lib.bytesCells]
    have : s.data.size = s.size := rfl
    omega
  have hl : s.data.toList.length = s.size := by rw [Array.length_toList]; rfl
  unfold OwnB
  rw [hl]
  refine .made (by rw [byteCells_length, hl, Nat.mul_one]) (Nat.le_refl _) hb.lt hn hm (fun j hj => ?_) (fun j u hu => ?_)
  · rw [Nat.zero_add]
    refine ⟨by rw [cell_of_row _ _ j _ _ _ hnew]; simp; omega, ?_⟩
    simp only [World.frozen?, hnew]
    simp
    omega
  · rw [Nat.zero_add]
    have hlt : j < s.data.toList.length := by
      rcases Nat.lt_or_ge j s.data.toList.length with h' | h'
      · exact h'
      · rw [List.getElem?_eq_none (by rw [byteCells_length]; exact h')] at hu; cases hu
    rw [hb.cell j hlt]
    simp [Lib.byteCells] at hu
    obtain ⟨x, hx, rfl⟩ := hu
    simp [List.getD_eq_getElem?_getD, hx]
end Go.Proofs.YtcflgoddfakepaaDoor

/- Slices that the call itself has made, whatever their elements and wherever in a block: append. octet.PutLen: what it computes; the library's table behind other calls. Operations that leave alone all memory below a bound, at the head of a plain region. More steps: an operation that its guard shuts out; a variable made, in a world left open. Regions that draw their order: calls that always hand back the same may be taken first, too; what else is done, is done in whatever world has more memory. The document's Dec: what it computes. The document's text and Form: what they compute. The document's Form and May: what they compute. The document's May: what it computes; what is not great is not long. Drawn regions: one cell stored; values that must be read ahead of a store. Drawn regions that read ahead of what they write: reads and calls are taken first; from the first write on nothing is asked of the world. The program's put, and what it counts: what they compute. -/
import Derived.Test.YthmigigclmogiaaDoorSuG1
import Derived.Deep.Upon
import Derived.Test.YthmigigclmogiaaDoorShelf
import Derived.Test.YthmigigclmogiaaDoorRows
import Derived.WalkKit
import Derived.Handy
import Derived.Lib.Hide
import Derived.Lib.AppendIntMem
import Derived.Lib.LaidTab
import Derived.Lib.ItoaNum
import Derived.Laws.CopyOwn
import Derived.StillTail
namespace Go.Proofs.YthmigigclmogiaaDoor
open Go.RowKit

/-- a slice of the call's own: n elements of 'size' cells each, the cells xs; its room may be written -/
def OwnG (w : World) (B size : Nat) (v : Value) (n : Nat) (xs : List Value) : Prop :=
  xs.length = n * size ∧ ((v = .slice none 0 0 ∧ n = 0) ∨
    ∃ g o cap, v = .slice (some ⟨g, o, none⟩) n cap ∧ B ≤ g ∧ g < w.heap.size ∧ n ≤ cap ∧ cap ≤ maxLen ∧ w.there g o (cap * size) ∧ w.rangeAt g o xs)

variable {P : Program} {w w' : World} {B size : Nat} {v : Value} {n : Nat} {xs : List Value}

theorem OwnG.nil (w : World) (B size : Nat) : OwnG w B size (.slice none 0 0) 0 [] := ⟨by simp, .inl ⟨rfl, rfl⟩⟩
theorem OwnG.le {B' : Nat} (h : OwnG w B size v n xs) (hB : B' ≤ B) : OwnG w B' size v n xs := by
  refine ⟨h.1, ?_⟩
  rcases h.2 with h2 | ⟨g, o, cap, h2, h3, h4⟩
  · exact .inl h2
  · exact .inr ⟨g, o, cap, h2, Nat.le_trans hB h3, h4⟩
theorem OwnG.lt (h : OwnG w B size v n xs) : ∀ k, v.ownBlock = some k → B ≤ k ∧ k < w.heap.size := by
  intro k hk
  rcases h.2 with ⟨rfl, _⟩ | ⟨g, o, cap, rfl, h3, h4, _⟩
  · simp [Value.ownBlock] at hk
  · simp [Value.ownBlock] at hk
    subst hk
    exact ⟨h3, h4⟩
/-- the row's block is as it was -/
theorem OwnG.keep (h : OwnG w B size v n xs) (hz : w.heap.size ≤ w'.heap.size) (hk : ∀ g, v.ownBlock = some g → w'.heap[g]? = w.heap[g]?) : OwnG w' B size v n xs := by
  refine ⟨h.1, ?_⟩
  rcases h.2 with h2 | ⟨g, o, cap, rfl, h3, h4, h5, h6, h7, h8⟩
  · exact .inl h2
  · have hb := hk g rfl
    refine .inr ⟨g, o, cap, rfl, h3, Nat.lt_of_lt_of_le h4 hz, h5, h6, fun j hj => ?_, fun j u hu => ?_⟩
    · rw [World.cell?_of_block (a := ⟨g, o + j, none⟩) hb, World.frozen?_of_block (a := ⟨g, o + j, none⟩) hb]; exact h7 j hj
    · rw [World.cell?_of_block (a := ⟨g, o + j, none⟩) hb]; exact h8 j u hu
theorem OwnG.after (h : OwnG w B size v n xs) (hb : Below w.heap.size w w') : OwnG w' B size v n xs :=
  h.keep hb.size fun g hg => hb.block g (h.lt g hg).2
theorem OwnG.drew (h : OwnG w B size v n xs) : OwnG w.drew B size v n xs := h.keep (Nat.le_refl _) fun _ _ => rfl
theorem OwnG.alloc (h : OwnG w B size v n xs) (o : Obj) : OwnG (w.alloc o) B size v n xs := h.after ((Below.refl _ _).alloc (Nat.le_refl _) _)
/-- another row has grown -/
theorem OwnG.grown (h : OwnG w B size v n xs) {row : Option Nat} (hg : w.grownBy w' row) (hne : v.ownBlock = none ∨ v.ownBlock ≠ row) : OwnG w' B size v n xs :=
  h.keep hg.size fun g hv => hg.block g (h.lt g hv).2 (by rw [← hv]; rcases hne with e | e; · rw [e] at hv; cases hv
                                                          · exact e)

/-- n elements whose cells may be written: a part of an array that was made -/
theorem OwnG.made (h1 : xs.length = n * size) {g o cap : Nat} (h3 : B ≤ g) (h4 : g < w.heap.size) (h5 : n ≤ cap) (h6 : cap ≤ maxLen) (h7 : w.there g o (cap * size)) (h8 : w.rangeAt g o xs) : OwnG w B size (.slice (some ⟨g, o, none⟩) n cap) n xs :=
  ⟨h1, .inr ⟨g, o, cap, rfl, h3, h4, h5, h6, h7, h8⟩⟩

/-- a whole new block -/
theorem OwnG.new (w : World) (B size : Nat) (hB : B ≤ w.heap.size) (cur : Array Value) (e : TypeId) (n cap : Nat) (hn : n ≤ cap) (hc : cap ≤ maxLen) (hs : cur.size = cap * size) :
    OwnG (w.alloc (.cells cur e)) B size (.slice (some ⟨w.heap.size, 0, none⟩) n cap) n (cur.toList.take (n * size)) := by
  have hb : (w.alloc (.cells cur e)).heap[w.heap.size]? = some (.cells cur e (0, 0)) := heap_alloc_new _ _
  have hle := Nat.mul_le_mul_right size hn
  refine .made (by simp; omega) hB (by simp) hn hc (fun j hj => ?_) (fun j u hu => ?_)
  · rw [Nat.zero_add]
    exact ⟨by rw [cell_of_row _ _ j cur e _ hb]; simp; omega, frozen_of_row _ _ j cur e hb⟩
  · rw [Nat.zero_add, cell_of_row _ _ j cur e _ hb]
    rw [List.getElem?_take] at hu
    split at hu
    · simpa using hu
    · cases hu

theorem tape_setCells (g : Nat) : ∀ (vs : List Value) (o : Nat) (w : World), (w.setCells g o vs).tape = w.tape
  | [], _, _ => rfl
  | v :: vs, o, w => by
    rw [show w.setCells g o (v :: vs) = (w.setCell ⟨g, o, none⟩ v).setCells g (o + 1) vs from rfl, tape_setCells g vs (o + 1)]
    rfl
theorem size_setCells (g : Nat) : ∀ (vs : List Value) (o : Nat) (w : World), (w.setCells g o vs).heap.size = w.heap.size
  | [], _, _ => rfl
  | v :: vs, o, w => by
    rw [show w.setCells g o (v :: vs) = (w.setCell ⟨g, o, none⟩ v).setCells g (o + 1) vs from rfl, size_setCells g vs (o + 1)]
    simp
theorem grownBy_setCells (w : World) (g o : Nat) (vs : List Value) : w.grownBy (w.setCells g o vs) (some g) :=
  ⟨World.os_setCells w g o vs, tape_setCells g vs o w, World.output_setCells w g o vs, Nat.le_of_eq (size_setCells g vs o w).symm, fun k hk hne => World.heap_setCells_other w g o vs hk (fun e => hne (by rw [e]))⟩

theorem OwnG.append (t tx ty e : TypeId) (i : TypeInfo) (z : Value) (bytes : Nat) (ht : P.underlying t = some (.slice e)) (hi : P.info? e = some i) (hz : i.zero = some z) (hsize : i.size = size) (hby : i.bytes = bytes) (hzs : z.cells.size = size) (hsz : 0 < size)
    (h : OwnG w B size v n xs) (x : Value) (m : Nat) (news : List Value) (hs : Src P size tx x m news w) (h63 : n + m ≤ maxLen) (hbytes : (n + m) * bytes ≤ 140737488355328) (hB : B ≤ w.heap.size) :
    ∃ v' w', (Builtin.append_ #[t, tx] ty #[v, x]).run P w = .ok v' w' ∧ OwnG w' B size v' (n + m) (xs ++ news) ∧ w.grownBy w' v.ownBlock ∧ ∀ k, v'.ownBlock = some k → v.ownBlock = some k ∨ w.heap.size ≤ k := by
  subst hsize
  subst hby
  have hlen : (xs ++ news).length = (n + m) * i.size := by rw [List.length_append, h.1, hs.newsLen, Nat.add_mul]
  have hsmall : ((n + m : Nat) : Int) ≤ 9223372036854775807 := by simp only [maxLen] at h63; omega
  have grown : ∀ old, ∀ (row : Option Nat),
      OwnG (w.drew.alloc (.cells ((xs ++ news).toArray ++ Builtin.zeroCells z.cells (grownCap w (n + m) old e - (n + m))) e)) B i.size (.slice (some ⟨w.heap.size, 0, none⟩) (n + m) (grownCap w (n + m) old e)) (n + m) (xs ++ news) ∧
      w.grownBy (w.drew.alloc (.cells ((xs ++ news).toArray ++ Builtin.zeroCells z.cells (grownCap w (n + m) old e - (n + m))) e)) row := by
    intro old row
    have hge := grownCap_ge w (n + m) old e
    have hcm : grownCap w (n + m) old e ≤ maxLen := grownCap_le_maxLen w (n + m) old e h63
    refine ⟨?_, ⟨rfl, rfl, rfl, by simp, fun k hk _ => heap_alloc_old w.drew _ hk⟩⟩
    have := OwnG.new w.drew B i.size hB ((xs ++ news).toArray ++ Builtin.zeroCells z.cells (grownCap w (n + m) old e - (n + m))) e (n + m) (grownCap w (n + m) old e) hge hcm (by
      simp only [Array.size_append, List.size_toArray, size_zeroCells, hzs, hlen, ← Nat.add_mul]
      congr 1
      omega)
    rw [show ((xs ++ news).toArray ++ Builtin.zeroCells z.cells (grownCap w (n + m) old e - (n + m))).toList.take ((n + m) * i.size) = xs ++ news by
      rw [Array.toList_append, ← hlen]
      exact List.take_left] at this
    exact this
  rcases h.2 with ⟨rfl, rfl⟩ | ⟨g, o, cap, rfl, h3, h4, h5, h6, h7, h8⟩
  · have hx : xs = [] := List.eq_nil_of_length_eq_zero (by simpa using h.1)
    subst hx
    by_cases hm : m = 0
    · subst hm
      have hn : news = [] := List.eq_nil_of_length_eq_zero (by simpa using hs.newsLen)
      subst hn
      exact ⟨_, _, run_append_nothing w t tx ty e i ht hi none 0 0 (Nat.le_refl _) x hs, OwnG.nil w B i.size, World.grownBy.refl w _, fun k hk => .inl hk⟩
    · have hr := run_append_grow_src w t tx ty e i z ht hi hz none 0 0 [] (run_firstCells_none w.drew i.size 0 0 0) x m news hs (by omega) hsmall (growslice_fits (by omega) hbytes)
      have hg := grown 0 (Value.ownBlock (.slice none 0 0))
      exact ⟨_, _, hr, hg.1, hg.2, fun k hk => .inr (by simp [Value.ownBlock] at hk; omega)⟩
  · by_cases hroom : n + m ≤ cap
    · have hle : n * i.size + news.length ≤ cap * i.size := by rw [hs.newsLen, ← Nat.add_mul]; exact Nat.mul_le_mul_right _ hroom
      have hr := run_append_room_src w t tx ty e i ht hi g o n cap x m news hs hroom (fun j hj => by have := (h7 (n * i.size + j) (by omega)).1; rwa [← Nat.add_assoc] at this) (fun j hj => by have := (h7 (n * i.size + j) (by omega)).2; rwa [← Nat.add_assoc] at this)
      refine ⟨_, _, hr, .made hlen h3 (by rw [size_setCells]; exact h4) hroom h6 (World.there_setCells h7 _ _ _) (fun j u hu => ?_), grownBy_setCells _ _ _ _, fun k hk => .inl hk⟩
      rw [List.getElem?_append] at hu
      split at hu
      · rename_i hlt
        exact World.rangeAt_setCells_apart h8 g (o + n * i.size) news (.inr (.inl (by rw [h.1]; exact Nat.le_refl _))) j u hu
      · rename_i hge
        have hthere : w.there g (o + n * i.size) news.length := fun j hj => by have := h7 (n * i.size + j) (by omega); rwa [← Nat.add_assoc] at this
        have := World.rangeAt_setCells_same w g (o + n * i.size) news hthere (j - xs.length) u hu
        rw [h.1] at this hge
        rwa [show o + n * i.size + (j - n * i.size) = o + j by omega] at this
    · have hr := run_append_grow_src w t tx ty e i z ht hi hz (some ⟨g, o, none⟩) n cap xs (run_firstCells_some w.drew i.size n ⟨g, o, none⟩ n cap xs h.1 (fun j u hu => by rw [Addr.add_mid]; simpa using h8 j u hu)) x m news hs (by omega) hsmall (growslice_fits (by omega) hbytes)
      have hg := grown cap (Value.ownBlock (.slice (some ⟨g, o, none⟩) n cap))
      exact ⟨_, _, hr, hg.1, hg.2, fun k hk => .inr (by simp [Value.ownBlock] at hk; omega)⟩

theorem wp_append_G {o : Oper} {a : Act} {K : Act → World → Prop} {Q : Exit → Act → World → Prop} (s x : Operand) (t tx : TypeId)
    (ho : o.op = .call { callee := .builtin .append, args := #[s, x], argTypes := #[t, tx] }) (e : TypeId) (i : TypeInfo) (z : Value) (bytes : Nat) (ht : P.underlying t = some (.slice e)) (hi : P.info? e = some i) (hz : i.zero = some z) (hsize : i.size = size) (hby : i.bytes = bytes) (hzs : z.cells.size = size) (hsz : 0 < size)
    (hs : a.eval s = v) (h : OwnG w B size v n xs) (xv : Value) (hx : a.eval x = xv) (m : Nat) (news : List Value) (hsrc : Src P size tx xv m news w) (h63 : n + m ≤ maxLen) (hbytes : (n + m) * bytes ≤ 140737488355328) (hB : B ≤ w.heap.size)
    (hk : ∀ v' w', OwnG w' B size v' (n + m) (xs ++ news) → w.grownBy w' v.ownBlock → (∀ k, v'.ownBlock = some k → v.ownBlock = some k ∨ w.heap.size ≤ k) → K (a.put o.dst v') w') : o.wp P a w K Q := by
  obtain ⟨v', w', hr, h2, h3, h4⟩ := OwnG.append t tx o.type e i z bytes ht hi hz hsize hby hzs hsz h xv m news hsrc h63 hbytes hB
  unfold Oper.wp execOp
  simp only [ho, resolve, invoke, builtin, Sem.run_bind, Sem.run_pure, Result.andThen_ok, List.map_toArray, List.map_cons, List.map_nil, hs, hx, hr]
  exact hk v' w' h2 h3 h4

/-- a slice of bytes of the call's own, that reads as a list -/
def OwnB (w : World) (B : Nat) (v : Value) (l : List UInt8) : Prop := OwnG w B 1 v l.length (Lib.byteCells l)
theorem OwnB.nil (w : World) (B : Nat) : OwnB w B (.slice none 0 0) [] := OwnG.nil w B 1
theorem OwnB.sl {l : List UInt8} (h : OwnB w B v l) : ∃ a c, v = .slice a l.length c ∧ Sl w a l.length c l := by
  rcases h.2 with ⟨rfl, hl⟩ | ⟨g, o, cap, rfl, h3, h4, h5, h6, h7, h8⟩
  · have : l = [] := List.eq_nil_of_length_eq_zero hl
    subst this
    exact ⟨none, 0, rfl, rfl, Nat.le_refl _, Nat.zero_le _, fun _ => rfl, .inl rfl⟩
  · refine ⟨_, _, rfl, rfl, h5, h6, (fun h => by cases h), .inr ⟨g, o, rfl, fun i hi => h8 i _ ?_⟩⟩
    simp [Lib.byteCells, List.getD_eq_getElem?_getD, hi]
theorem OwnB.own {l : List UInt8} (h : OwnB w B v l) : ∀ k, v.ownBlock = some k → B ≤ k ∧ k < w.heap.size := OwnG.lt h
theorem OwnB.after {l : List UInt8} (h : OwnB w B v l) (hb : Below w.heap.size w w') : OwnB w' B v l := OwnG.after h hb
theorem OwnB.le {B' : Nat} {l : List UInt8} (h : OwnB w B v l) (hB : B' ≤ B) : OwnB w B' v l := OwnG.le h hB
theorem Sl.src {a : Option Addr} {m c : Nat} {l : List UInt8} (h : Sl w a m c l) {t e : TypeId} (ht : P.underlying t = some (.slice e)) : Src P 1 t (.slice a m c) m (Lib.byteCells l) w := by
  obtain ⟨h1, h2, h3, h5, h4⟩ := h
  cases a with
  | none =>
    have hc := h5 rfl
    subst hc
    obtain rfl : m = 0 := by omega
    have hl2 : l = [] := List.eq_nil_of_length_eq_zero h1.symm
    subst hl2
    exact Src.ofNil w ht 0
  | some ad =>
    refine Src.ofSlice w ht ad m c _ (by simp [Lib.byteCells, h1]) (fun j u hj => ?_) (fun u hu => ?_)
    · rcases h4 with h4 | ⟨b, o', e', h4⟩
      · have hl2 : l = [] := List.eq_nil_of_length_eq_zero (by omega)
        subst hl2
        simp [Lib.byteCells] at hj
      · obtain rfl := Option.some.inj e'
        have hlt : j < l.length := by
          rcases Nat.lt_or_ge j l.length with h' | h'
          · exact h'
          · simp [Lib.byteCells, List.getElem?_eq_none h'] at hj
        simp [Lib.byteCells, hlt] at hj
        rw [Addr.add_lit, h4 j (by omega), ← hj]
        simp [List.getD_eq_getElem?_getD, hlt]
    · obtain ⟨_, _, rfl⟩ := List.mem_map.1 hu
      rfl

theorem infoU8G : (Tryd.prog.info? 5).map (fun i => (i.zero, i.size, i.bytes)) = some (some (.int .u8 0), 1, 1) := by kernel_rfl

/-- 'append(out, x...)' of bytes: out the call's own -/
theorem wp_append_B3 {o : Oper} {a : Act} {K : Act → World → Prop} {Q : Exit → Act → World → Prop} (s x : Operand)
    (ho : o.op = .call { callee := .builtin .append, args := #[s, x], argTypes := #[22, 22] })
    {l : List UInt8} (hs : a.eval s = v) (h : OwnB w B v l) {ax : Option Addr} {m c : Nat} {l2 : List UInt8} (hx : a.eval x = .slice ax m c) (hsl : Sl w ax m c l2) (hbytes : l.length + m ≤ 140737488355328) (hB : B ≤ w.heap.size)
    (hk : ∀ v' w', OwnB w' B v' (l ++ l2) → w.grownBy w' v.ownBlock → (∀ k, v'.ownBlock = some k → v.ownBlock = some k ∨ w.heap.size ≤ k) → K (a.put o.dst v') w') : o.wp Tryd.prog a w K Q := by
  obtain ⟨i0, hi, hi2⟩ := Option.map_eq_some_iff.1 infoU8G
  simp only [Prod.mk.injEq] at hi2
  obtain ⟨hz0, hz1, hz2⟩ := hi2
  refine wp_append_G s x 22 22 ho 5 i0 (.int .u8 0) 1 Tryd.underlying22 hi hz0 hz1 hz2 rfl (by decide) hs h _ hx m _ (hsl.src Tryd.underlying22) (by unfold maxLen; omega) (by omega) hB (fun v' w' h1 h2 h3 => hk v' w' ?_ h2 h3)
  rw [byteCells_append, hsl.1] at h1
  unfold OwnB
  rw [List.length_append]
  exact h1
theorem wp_append_B {o : Oper} {a : Act} {K : Act → World → Prop} {Q : Exit → Act → World → Prop} (s x : Operand)
    (ho : o.op = .call { callee := .builtin .append, args := #[s, x], argTypes := #[22, 22] })
    {l : List UInt8} (hs : a.eval s = v) (h : OwnB w B v l) {ax : Option Addr} {m c : Nat} {l2 : List UInt8} (hx : a.eval x = .slice ax m c) (hsl : Sl w ax m c l2) (hbytes : l.length + m ≤ 140737488355328) (hB : B ≤ w.heap.size)
    (hk : ∀ v' w', OwnB w' B v' (l ++ l2) → w.grownBy w' v.ownBlock → K (a.put o.dst v') w') : o.wp Tryd.prog a w K Q :=
  wp_append_B3 s x ho hs h hx hsl hbytes hB fun v' w' h1 h2 _ => hk v' w' h1 h2
theorem wpList_append_B {ops : Array Oper} {rest : List Oper} {o : Oper} {a : Act} {Q : Exit → Act → World → Prop} (hgd : o.guard = none) (s x : Operand)
    (ho : o.op = .call { callee := .builtin .append, args := #[s, x], argTypes := #[22, 22] })
    {l : List UInt8} (hs : a.eval s = v) (h : OwnB w B v l) {ax : Option Addr} {m c : Nat} {l2 : List UInt8} (hx : a.eval x = .slice ax m c) (hsl : Sl w ax m c l2) (hbytes : l.length + m ≤ 140737488355328) (hB : B ≤ w.heap.size)
    (hk : ∀ v' w', OwnB w' B v' (l ++ l2) → w.grownBy w' v.ownBlock → wpList Tryd.prog ops Q rest (a.put o.dst v') w') : wpList Tryd.prog ops Q (o :: rest) a w :=
  wpList_plain hgd fun _ hK => wp_append_B s x ho hs h hx hsl hbytes hB fun v' w' h1 h2 => hK _ _ (hk v' w' h1 h2)
theorem wpList_append_B3 {ops : Array Oper} {rest : List Oper} {o : Oper} {a : Act} {Q : Exit → Act → World → Prop} (hgd : o.guard = none) (s x : Operand)
    (ho : o.op = .call { callee := .builtin .append, args := #[s, x], argTypes := #[22, 22] })
    {l : List UInt8} (hs : a.eval s = v) (h : OwnB w B v l) {ax : Option Addr} {m c : Nat} {l2 : List UInt8} (hx : a.eval x = .slice ax m c) (hsl : Sl w ax m c l2) (hbytes : l.length + m ≤ 140737488355328) (hB : B ≤ w.heap.size)
    (hk : ∀ v' w', OwnB w' B v' (l ++ l2) → w.grownBy w' v.ownBlock → (∀ k, v'.ownBlock = some k → v.ownBlock = some k ∨ w.heap.size ≤ k) → wpList Tryd.prog ops Q rest (a.put o.dst v') w') : wpList Tryd.prog ops Q (o :: rest) a w :=
  wpList_plain hgd fun _ hK => wp_append_B3 s x ho hs h hx hsl hbytes hB fun v' w' h1 h2 h3 => hK _ _ (hk v' w' h1 h2 h3)

/-- 'append(out, s...)' of a string's bytes -/
theorem wp_append_S3 {o : Oper} {a : Act} {K : Act → World → Prop} {Q : Exit → Act → World → Prop} (s x : Operand)
    (ho : o.op = .call { callee := .builtin .append, args := #[s, x], argTypes := #[22, 9] })
    {l : List UInt8} (hs : a.eval s = v) (h : OwnB w B v l) {l2 : List UInt8} (hx : a.eval x = .string ⟨l2.toArray⟩) (hbytes : l.length + l2.length ≤ 140737488355328) (hB : B ≤ w.heap.size)
    (hk : ∀ v' w', OwnB w' B v' (l ++ l2) → w.grownBy w' v.ownBlock → (∀ k, v'.ownBlock = some k → v.ownBlock = some k ∨ w.heap.size ≤ k) → K (a.put o.dst v') w') : o.wp Tryd.prog a w K Q := by
  obtain ⟨i0, hi, hi2⟩ := Option.map_eq_some_iff.1 infoU8G
  simp only [Prod.mk.injEq] at hi2
  obtain ⟨hz0, hz1, hz2⟩ := hi2
  have hsrc := Src.ofString (P := Tryd.prog) (w := w) Tryd.underlying9 ⟨l2.toArray⟩
  rw [show (⟨l2.toArray⟩ : ByteArray).size = l2.length by simp [ByteArray.size], show byteCells ⟨l2.toArray⟩ = Lib.byteCells l2 from rfl] at hsrc
  refine wp_append_G s x 22 9 ho 5 i0 (.int .u8 0) 1 Tryd.underlying22 hi hz0 hz1 hz2 rfl (by decide) hs h _ hx _ _ hsrc (by unfold maxLen; omega) (by omega) hB (fun v' w' h1 h2 h3 => hk v' w' ?_ h2 h3)
  rw [byteCells_append] at h1
  unfold OwnB
  rw [List.length_append]
  exact h1
theorem wp_append_S {o : Oper} {a : Act} {K : Act → World → Prop} {Q : Exit → Act → World → Prop} (s x : Operand)
    (ho : o.op = .call { callee := .builtin .append, args := #[s, x], argTypes := #[22, 9] })
    {l : List UInt8} (hs : a.eval s = v) (h : OwnB w B v l) {l2 : List UInt8} (hx : a.eval x = .string ⟨l2.toArray⟩) (hbytes : l.length + l2.length ≤ 140737488355328) (hB : B ≤ w.heap.size)
    (hk : ∀ v' w', OwnB w' B v' (l ++ l2) → w.grownBy w' v.ownBlock → K (a.put o.dst v') w') : o.wp Tryd.prog a w K Q :=
  wp_append_S3 s x ho hs h hx hbytes hB fun v' w' h1 h2 _ => hk v' w' h1 h2
theorem wpList_append_S {ops : Array Oper} {rest : List Oper} {o : Oper} {a : Act} {Q : Exit → Act → World → Prop} (hgd : o.guard = none) (s x : Operand)
    (ho : o.op = .call { callee := .builtin .append, args := #[s, x], argTypes := #[22, 9] })
    {l : List UInt8} (hs : a.eval s = v) (h : OwnB w B v l) {l2 : List UInt8} (hx : a.eval x = .string ⟨l2.toArray⟩) (hbytes : l.length + l2.length ≤ 140737488355328) (hB : B ≤ w.heap.size)
    (hk : ∀ v' w', OwnB w' B v' (l ++ l2) → w.grownBy w' v.ownBlock → wpList Tryd.prog ops Q rest (a.put o.dst v') w') : wpList Tryd.prog ops Q (o :: rest) a w :=
  wpList_plain hgd fun _ hK => wp_append_S s x ho hs h hx hbytes hB fun v' w' h1 h2 => hK _ _ (hk v' w' h1 h2)
theorem wpList_append_S3 {ops : Array Oper} {rest : List Oper} {o : Oper} {a : Act} {Q : Exit → Act → World → Prop} (hgd : o.guard = none) (s x : Operand)
    (ho : o.op = .call { callee := .builtin .append, args := #[s, x], argTypes := #[22, 9] })
    {l : List UInt8} (hs : a.eval s = v) (h : OwnB w B v l) {l2 : List UInt8} (hx : a.eval x = .string ⟨l2.toArray⟩) (hbytes : l.length + l2.length ≤ 140737488355328) (hB : B ≤ w.heap.size)
    (hk : ∀ v' w', OwnB w' B v' (l ++ l2) → w.grownBy w' v.ownBlock → (∀ k, v'.ownBlock = some k → v.ownBlock = some k ∨ w.heap.size ≤ k) → wpList Tryd.prog ops Q rest (a.put o.dst v') w') : wpList Tryd.prog ops Q (o :: rest) a w :=
  wpList_plain hgd fun _ hK => wp_append_S3 s x ho hs h hx hbytes hB fun v' w' h1 h2 h3 => hK _ _ (hk v' w' h1 h2 h3)

/-- memory made, and the blocks of a set touched -/
structure But (S : Nat → Prop) (w w' : World) : Prop where
  os : w'.os = w.os
  tape : w'.tape = w.tape
  output : w'.output = w.output
  size : w.heap.size ≤ w'.heap.size
  block : ∀ k, k < w.heap.size → ¬ S k → w'.heap[k]? = w.heap[k]?

section
variable {S T : Nat → Prop} {w1 w2 w3 : World}
theorem But.refl (S : Nat → Prop) (w : World) : But S w w := ⟨rfl, rfl, rfl, Nat.le_refl _, fun _ _ _ => rfl⟩
theorem But.trans (h : But S w1 w2) (h' : But T w2 w3) (hT : ∀ k, T k → S k ∨ w1.heap.size ≤ k) : But S w1 w3 :=
  ⟨h'.os.trans h.os, h'.tape.trans h.tape, h'.output.trans h.output, Nat.le_trans h.size h'.size, fun k hk hS =>
    (h'.block k (Nat.lt_of_lt_of_le hk h.size) (fun hT' => (hT k hT').elim hS (fun e => by omega))).trans (h.block k hk hS)⟩
theorem But.mono (h : But S w1 w2) (hT : ∀ k, S k → T k) : But T w1 w2 := ⟨h.os, h.tape, h.output, h.size, fun k hk hS => h.block k hk fun e => hS (hT k e)⟩
theorem But.drew (h : But S w1 w2) : But S w1 w2.drew := ⟨h.os, h.tape, h.output, h.size, h.block⟩
theorem But.alloc (h : But S w1 w2) (o : Obj) : But S w1 (w2.alloc o) :=
  ⟨h.os, h.tape, h.output, by have := h.size; simp; omega, fun k hk hS => (Below.heap_alloc w2 o k (Nat.lt_of_lt_of_le hk h.size)).trans (h.block k hk hS)⟩
theorem But.setCell (h : But S w1 w2) {p : Addr} (hp : S p.block ∨ w1.heap.size ≤ p.block) (u : Value) : But S w1 (w2.setCell p u) :=
  ⟨h.os, h.tape, h.output, by have := h.size; simpa using this, fun k hk hS =>
    (Below.heap_setCell w2 p u k (fun e => hp.elim (fun e' => hS (e ▸ e')) (fun e' => by omega))).trans (h.block k hk hS)⟩
theorem But.ofBelow (h : Below w1.heap.size w1 w2) : But S w1 w2 := ⟨h.os, h.tape, h.output, h.size, fun k hk _ => h.block k hk⟩
theorem But.ofGrown {row : Option Nat} (h : w1.grownBy w2 row) (hS : ∀ k, row = some k → S k) : But S w1 w2 := ⟨h.os, h.tape, h.output, h.size, fun k hk hn => h.block k hk fun e => hn (hS k e.symm)⟩
theorem But.below (h : But S w1 w2) {B : Nat} (hB : B ≤ w1.heap.size) (hS : ∀ k, S k → B ≤ k) : Below B w1 w2 :=
  ⟨h.os, h.tape, h.output, h.size, fun k hk => h.block k (by omega) fun e => by have := hS k e; omega⟩
theorem But.ofStored {g : Nat} (h : Stored w1 w2 g) (hb : Below 0 w1 w2) : But (fun k => k = g) w1 w2 := ⟨hb.os, hb.tape, hb.output, hb.size, fun k _ hk => h.other k hk⟩
/-- what touches the set alone, behind a Below -/
theorem But.after {B : Nat} {w0 : World} (h0 : Below B w0 w1) (h : But S w1 w2) (hB : B ≤ w1.heap.size) (hS : ∀ k, S k → B ≤ k) : Below B w0 w2 :=
  h0.trans (h.below hB hS)
theorem But.box {g : Nat} {T : TypeId} {cs : Array Value} (h : But S w1 w2) (hb : Box w1 g T cs) (hg : ¬ S g) : Box w2 g T cs := (h.block g hb.lt hg).trans hb
theorem OwnG.but {B size n : Nat} {v : Value} {xs : List Value} (h : OwnG w1 B size v n xs) (hb : But S w1 w2) (hg : ∀ k, v.ownBlock = some k → ¬ S k) : OwnG w2 B size v n xs :=
  h.keep hb.size fun g hv => hb.block g (h.lt g hv).2 (hg g hv)
theorem Sl.but {a : Option Addr} {n c : Nat} {l : List UInt8} (h : Sl w1 a n c l) (hb : But S w1 w2) {ok : Nat → Prop} (hi : InB ok a n) (hok : ∀ k, ok k → ¬ S k) : Sl w2 a n c l := by
  rcases hi with hi | hi
  · exact h.keep (.inl hi)
  · rcases h.inB with h0 | h0
    · exact h.keep (.inl h0)
    · exact h.keep (.inr fun b o s e => hb.block b (h0 b o s e) (hok b (hi b o s e)))
theorem RowAt.but {a : Option Addr} {n c : Nat} {K : Nat → SV} (h : RowAt w1 a n c K) (hb : But S w1 w2) {ok : Nat → Prop} (hi : InB ok a n) (hok : ∀ k, ok k → ¬ S k) : RowAt w2 a n c K := by
  rcases hi with hi | hi
  · exact h.keep (.inl hi)
  · rcases h.lt with h0 | h0
    · exact h.keep (.inl h0)
    · exact h.keep (.inr fun b o s e => hb.block b (h0 b o s e) (hok b (hi b o s e)))
theorem RdI.but {ok : Nat → Prop} {v : SV} {s : Sx} (h : RdI ok w1 v s) (hb : But S w1 w2) (hok : ∀ k, ok k → ¬ S k) : RdI ok w2 v s :=
  (h.there.keep fun b hb' => hb.block b hb'.2 (hok b hb'.1)).mono fun _ h => h.1
end

/-- '[]byte(s)' -/
theorem conv_own (w : World) (s : ByteArray) (hs : s.size ≤ 140737488355328) : ∃ v w', (convert 9 22 (.string s)).run Tryd.prog w = .ok v w' ∧ OwnB w' w.heap.size v s.data.toList ∧ Below w.heap.size w w' := by
  obtain ⟨c, w', hr, hb, hn, hm, hB⟩ := conv_str w s hs
  refine ⟨_, w', hr, ?_, hB⟩
  have hr' := hr
  rw [Lib.run_convert_string_bytes w 9 22 5 s Tryd.underlying9 Tryd.underlying22 Tryd.underlying5] at hr'
  injection hr' with h1 h2
  injection h1 with _ _ hc
  have hnew := Lib.bytesWorld_at_new w 5 s
  rw [h2] at hnew
  have hsz : (Lib.bytesCells w 5 s).size = c := by
    rw [← hc]
    have := grownCap_ge w s.size 0 5
    simp [Lib.bytesCells]
    have : s.data.size = s.size := rfl
    omega
  have hl : s.data.toList.length = s.size := by rw [Array.length_toList]; rfl
  unfold OwnB
  rw [hl]
  refine .made (by rw [byteCells_length, hl, Nat.mul_one]) (Nat.le_refl _) hb.lt hn hm (fun j hj => ?_) (fun j u hu => ?_)
  · rw [Nat.zero_add]
    refine ⟨by rw [cell_of_row _ _ j _ _ _ hnew]; simp; omega, ?_⟩
    simp only [World.frozen?, hnew]
    simp
    omega
  · rw [Nat.zero_add]
    have hlt : j < s.data.toList.length := by
      rcases Nat.lt_or_ge j s.data.toList.length with h' | h'
      · exact h'
      · rw [List.getElem?_eq_none (by rw [byteCells_length]; exact h')] at hu; cases hu
    rw [hb.cell j hlt]
    simp [Lib.byteCells] at hu
    obtain ⟨x, hx, rfl⟩ := hu
    simp [List.getD_eq_getElem?_getD, hx]
end Go.Proofs.YthmigigclmogiaaDoor
namespace Go.Proofs.YthmigigclmogiaaDoor
open Go.RowKit

def Tab (w : World) : Prop := Lib.TabIs Tryd.prog w "internal/strconv.uint64pow10" .u64 Lib.pow10Tab
theorem Tab.after {w w' : World} (h : Tab w) (hb : Below w.heap.size w w') : Tab w' := by
  unfold Tab Lib.TabIs at *
  cases hg : Tryd.prog.globalNamed "internal/strconv.uint64pow10" with
  | none => unfold World.var? at h; rw [hg] at h; cases h
  | some g =>
    unfold World.var? at h ⊢
    rw [hg] at h ⊢
    simp only [Option.bind_some] at h ⊢
    have hlt : g < w.heap.size := by
      rcases Nat.lt_or_ge g w.heap.size with h' | h'
      · exact h'
      · rw [Array.getElem?_eq_none h'] at h; cases h
    rw [hb.block g hlt]
    exact h

/-- a length's digits -/
def numL (n : Int) : List UInt8 := Lib.decDigits n.toNat
theorem itoa_max (n : Int) : Lib.itoa (max n 0) = numL n := by
  unfold Lib.itoa numL
  rw [if_neg (by omega)]
  congr 1
  omega

theorem putLen_any (n : Int) (h0 : -9223372036854775808 ≤ n) (h1 : n ≤ 9223372036854775807) (w : World) (ht : Tab w) :
    Calls Tryd.prog 29 #[.int .i64 n] w fun e w' => e = .returned (.string ⟨(numL n).toArray⟩) ∧ Below w.heap.size w w' := by
  have HM := Lib.hid (itoa_max n)
  go_enter Tryd.func29, Tryd.ntmps29
  go_wp2_with fail
  refine (Tryd.strconv_Itoa _ (by omega) (by omega) _ ht).mono ?_
  rintro e w' ⟨rfl, k, os, rfl⟩
  rw [HM.out]
  go_wp2_with fail
  go_ret
  exact ⟨rfl, Lib.below_grow _ _ (Nat.le_refl _) _ _⟩
end Go.Proofs.YthmigigclmogiaaDoor
namespace Go.Proofs.YthmigigclmogiaaDoor
open Go.RowKit

variable {P : Program} {ops : Array Oper}

theorem wpList_of_quiet {C : World → Prop} {Q : Exit → Act → World → Prop} {K : Act → Prop} {rest : List Oper} : ∀ (l : List Oper) (a : Act) (w : World), C w → wpQuiet P ops C K l a →
    (∀ a' w', C w' → K a' → wpList P ops Q rest a' w') → wpList P ops Q (l ++ rest) a w
  | [], a, w, hw, h, hK => hK a w hw h
  | o :: l, a, w, hw, h, hK => by
    refine wpList_step fun K' hK' => ?_
    unfold wpQuiet at h
    by_cases hwt : Region.wanted o (yielded ops a.tmps) = true
    · rw [if_pos hwt] at h ⊢
      exact Oper.wp_of_quiet hw (fun a' w' hw' h' => hK' _ _ (wpList_of_quiet l a' w' hw' h' hK)) h
    · rw [if_neg hwt] at h ⊢
      exact hK' _ _ (wpList_of_quiet l _ w hw h hK)

/-- the first n operations of a plain region -/
theorem wpList_made {Q : Exit → Act → World → Prop} {l : List Oper} {a : Act} {w : World} (n : Nat) (B : Nat) (W : World) (h0 : Below B W w)
    (h : wpQuiet P ops (fun w' => Below B W w') (fun a' => ∀ w', Below B W w' → wpList P ops Q (l.drop n) a' w') (l.take n) a) : wpList P ops Q l a w := by
  have := wpList_of_quiet (C := fun w' => Below B W w') (rest := l.drop n) (Q := Q) (l.take n) a w h0 h (fun a' w' hw' hk => hk w' hw')
  rwa [List.take_append_drop] at this
end Go.Proofs.YthmigigclmogiaaDoor
namespace Go.Proofs.YthmigigclmogiaaDoor
open Go.RowKit

variable {P : Program} {ops : Array Oper}

theorem wpQ_skip {C : World → Prop} {Q : Act → Prop} {a : Act} {o : Oper} {rest : List Oper} (hgd : Region.wanted o (yielded ops a.tmps) = false) (h : wpQuiet P ops C Q rest (a.put o.dst undef)) : wpQuiet P ops C Q (o :: rest) a := by
  unfold wpQuiet
  rw [if_neg (by rw [hgd]; simp)]
  exact h

theorem wpList_new {rest : List Oper} {o : Oper} {a : Act} {w : World} {Q : Exit → Act → World → Prop} (hgd : Region.wanted o (yielded ops a.tmps) = true) (ty : TypeId) (ho : o.op = .alloc ty) (cells : Array Value)
    (hr : ∀ w, (Instr.alloc ty true (.tuple #[])).run P w = .ok (.pointer (some ⟨w.heap.size, 0, none⟩)) (w.alloc (.cells cells ty)))
    (h : ∀ g w', Box w' g ty cells → w.heap.size ≤ g → Below w.heap.size w w' → wpList P ops Q rest (a.put o.dst (.pointer (some ⟨g, 0, none⟩))) w') : wpList P ops Q (o :: rest) a w :=
  wpList_alloc_box hgd ty ho cells hr (h _ _ (Box.new _ _ _) (Nat.le_refl _) ((Below.refl _ _).alloc (Nat.le_refl _) _))

/-- the world behind a call of a function that makes memory at most -/
theorem wpList_made_call {rest : List Oper} {o : Oper} {a : Act} {w : World} {Q : Exit → Act → World → Prop} (hgd : Region.wanted o (yielded ops a.tmps) = true) (f : FuncId) (args : Array Value)
    (hr : (execOp a.eval o).run P w = .ok (.enter f args) w) (v : Value) (hc : Calls P f args w fun e w' => e = .returned v ∧ Below w.heap.size w w')
    (h : ∀ w', Below w.heap.size w w' → wpList P ops Q rest (a.put o.dst v) w') : wpList P ops Q (o :: rest) a w :=
  wpList_enter hgd f args hr v _ hc h

/-- two boxes made one behind the other -/
theorem Box.before {w : World} {g k : Nat} {T : TypeId} {cs : Array Value} (h : Box w g T cs) (hk : w.heap.size ≤ k) : g ≠ k := by
  have := h.lt
  omega
theorem Box.behind {w : World} {g k : Nat} {T : TypeId} {cs : Array Value} (h : Box w g T cs) (hk : w.heap.size ≤ k) : k ≠ g := by
  have := h.lt
  omega

theorem wpList_enterR {rest : List Oper} {o : Oper} {a : Act} {w : World} {Q : Exit → Act → World → Prop} (hgd : Region.wanted o (yielded ops a.tmps) = true) (f : FuncId) (args : Array Value)
    (hr : (execOp a.eval o).run P w = .ok (.enter f args) w) (R : Ending → World → Prop) (hc : Calls P f args w R)
    (h : ∀ e w', R e w' → ∃ v, e = .returned v ∧ wpList P ops Q rest (a.put o.dst v) w') : wpList P ops Q (o :: rest) a w :=
  wpList_want hgd fun _ hK => by
    unfold Oper.wp
    rw [hr]
    refine hc.mono fun e w' he => ?_
    obtain ⟨v, rfl, hw⟩ := h e w' he
    exact hK _ _ hw
end Go.Proofs.YthmigigclmogiaaDoor
namespace Go.Proofs.YthmigigclmogiaaDoor
open Go.RowKit

variable {P : Program} {ops : Array Oper} {Q : Exit → Act → World → Prop} {md : Region.Mode} {S : World → Prop}

/-- one value, and no memory changed that was there -/
def tameUpon (P : Program) (w : World) (v : Value) : Result Next → Prop
  | .ok (.value u) w' => w' = w ∧ u = v
  | .ok (.enter f args) w' => w' = w ∧ Calls P f args w (fun e w'' => e = .returned v ∧ Below w.heap.size w w'')
  | _ => False

def Tame (P : Program) (ops : Array Oper) (S : World → Prop) (o : Oper) (v : Value) (a : Act) : Prop :=
  (Region.wanted o (yielded ops a.tmps) = true ∧ ∀ w, S w → tameUpon P w v ((execOp a.eval o).run P w)) ∨ (Region.wanted o (yielded ops a.tmps) = false ∧ v = undef)

theorem Tame.wpOp {i : Nat} {o : Oper} {v : Value} {a : Act} (hi : ops[i]? = some o) (hy : Tame P ops S o v a) {K : Act → World → Prop} {w : World} (hS : S w)
    (h : ∀ w2, Below w.heap.size w w2 → K (a.put o.dst v) w2) : wpOp P ops Q i K a w := by
  unfold Go.wpOp
  simp only [hi]
  rcases hy with ⟨hw, hv⟩ | ⟨hw, rfl⟩
  · simp only [hw, if_true]
    left
    have h1 := hv w hS
    unfold Oper.wp
    generalize (execOp a.eval o).run P w = r at *
    cases r with
    | ok n w' =>
      cases n <;> simp only [tameUpon] at h1 <;> simp only [Oper.upon]
      case value u =>
        obtain ⟨rfl, rfl⟩ := h1
        exact h _ (Below.refl _ _)
      case enter f args =>
        obtain ⟨rfl, hc⟩ := h1
        exact hc.mono fun e w'' ⟨he, hb⟩ => by subst he; exact h _ hb
    | halt x w' => simp only [tameUpon] at h1
  · simp only [hw, Bool.false_eq_true, if_false]
    exact h _ (Below.refl _ _)

theorem Tame.of_same {o : Oper} {v : Value} {a a' : Act} (hy : Tame P ops S o v a) (he : execOp a'.eval o = execOp a.eval o)
    (hw : Region.wanted o (yielded ops a'.tmps) = Region.wanted o (yielded ops a.tmps)) : Tame P ops S o v a' := by
  unfold Tame at *
  rw [he, hw]
  exact hy

theorem wpOp_tame {j : Nat} {oi oj : Oper} {v : Value} (hj : ops[j]? = some oj) (hap : oi.apart ops oj = true) (hsi : ∀ cs b, oi.op ≠ .select cs b) (hsj : ∀ cs b, oj.op ≠ .select cs b)
    (hQ : ∀ c a w, Q (.panic c) (a.put oi.dst v) w → Q (.panic c) a w) {K : Act → World → Prop} {a : Act} {w : World} (hy : Tame P ops S oi v a)
    (h : wpOp P ops Q j K (a.put oi.dst v) w) : wpOp P ops Q j (fun a' w' => Tame P ops S oi v a' ∧ K (a'.put oi.dst v) w') a w := by
  obtain ⟨h1, h2, h3⟩ := Oper.apart_spec hap
  have keep : ∀ b : Act, Tame P ops S oi v b → ∀ u, Tame P ops S oi v (b.put oj.dst u) := fun b hb u => hb.of_same (execOp_put oi hsi b oj.dst u h3) (wanted_put oi b oj.dst u h3)
  unfold Go.wpOp at *
  simp only [hj] at *
  rw [wanted_put oj a oi.dst v h1] at h
  by_cases hw : Region.wanted oj (yielded ops a.tmps) = true
  · simp only [hw, if_true] at h ⊢
    rcases h with h | ⟨hasks, hlets⟩
    case inr => exact .inr ⟨by unfold Oper.asks at *; rw [execOp_put oj hsj a oi.dst v h1] at hasks; exact hasks, hlets⟩
    refine .inl ?_
    unfold Oper.wp at *
    rw [execOp_put oj hsj a oi.dst v h1] at h
    generalize (execOp a.eval oj).run P w = r at *
    cases r with
    | halt x w' =>
      cases x <;> simp only [Oper.upon] at h ⊢
      case panic u => exact hQ _ _ _ h
    | ok n w' =>
      cases n <;> simp only [Oper.upon] at h ⊢
      case value u => exact ⟨keep a hy u, by rw [← Act.put_comm a v u h2]; exact h⟩
      case skip => exact ⟨keep a hy _, by rw [← Act.put_comm a v undef h2]; exact h⟩
      case row row args => exact Rows.mono h fun u w'' he => ⟨keep a hy u, by rw [← Act.put_comm a v u h2]; exact he⟩
      case defer d => exact ⟨keep _ (hy.of_same (a' := { a with defers := d :: a.defers }) rfl rfl) _, by rw [← Act.put_comm _ v undef h2, ← Act.put_defers]; exact h⟩
      case enter f args =>
        refine Calls.mono h fun e w'' he => ?_
        cases e with
        | returned u => exact ⟨keep a hy u, by rw [← Act.put_comm a v u h2]; exact he⟩
        | panicked c => exact hQ _ _ _ he
        | outgrown => exact he
  · simp only [hw] at h ⊢
    exact ⟨keep a hy _, by rw [← Act.put_comm a v undef h2]; exact h⟩

/-- whatever order is picked from here on, and whatever memory is made besides -/
def wpU (P : Program) (md : Region.Mode) (ops : Array Oper) (Q : Exit → Act → World → Prop) (S : World → Prop) : Nat → Array Bool → Act → World → Prop
  | 0, listed, a, w => Region.ready md ops listed = [] ∧ ∀ w1, Below w.heap.size w w1 → S w1 → Q .normal a w1
  | fuel + 1, listed, a, w => ∀ w1, Below w.heap.size w w1 → S w1 → (Region.ready md ops listed = [] → Q .normal a w1) ∧
      ∀ i ∈ Region.ready md ops listed, wpOp P ops Q i (fun a' w' => S w' ∧ wpU P md ops Q S fuel (listed.setIfInBounds i true) a' w') a w1

theorem wpU_more : ∀ {fuel : Nat} {listed : Array Bool} {a : Act} {w w2 : World}, Below w.heap.size w w2 → wpU P md ops Q S fuel listed a w → wpU P md ops Q S fuel listed a w2
  | 0, _, _, _, _, hb, h => ⟨h.1, fun w1 b1 s1 => h.2 w1 (hb.trans (b1.mono hb.size)) s1⟩
  | _ + 1, _, _, _, _, hb, h => fun w1 b1 s1 => h w1 (hb.trans (b1.mono hb.size)) s1

theorem wpAny_of_U : ∀ (fuel : Nat) (listed : Array Bool) (a : Act) (w : World), S w → wpU P md ops Q S fuel listed a w → wpAny P md ops Q fuel listed a w
  | 0, _, _, w, hS, h => ⟨h.1, h.2 w (Below.refl _ _) hS⟩
  | fuel + 1, _, _, w, hS, h => ⟨(h w (Below.refl _ _) hS).1, fun i hi => wpOp_mono (fun a' w' h' => wpAny_of_U fuel _ a' w' h'.1 h'.2) ((h w (Below.refl _ _) hS).2 i hi)⟩

theorem wpU_first {i : Nat} {oi : Oper} {v : Value} (hi : ops[i]? = some oi) (hsel : ∀ (j : Nat) (o : Oper) cs b, ops[j]? = some o → o.op ≠ .select cs b)
    (hQ : ∀ c a w, Q (.panic c) (a.put oi.dst v) w → Q (.panic c) a w) (hK : ∀ w w', S w → Below w.heap.size w w' → S w') :
    ∀ (fuel : Nat) (listed : Array Bool) (a : Act) (w : World),
      (∀ j oj, ops[j]? = some oj → j ≠ i → listed.getD j true = false → (∀ e ∈ oj.after, Region.binds md e = true → e.on ≠ i) → oi.apart ops oj = true) →
      i ∈ Region.ready md ops listed → Tame P ops S oi v a → wpU P md ops Q S fuel (listed.setIfInBounds i true) (a.put oi.dst v) w → wpU P md ops Q S (fuel + 1) listed a w
  | 0, listed, a, w, _, hr, hy, H => fun w1 b1 s1 => by
    refine ⟨fun h => (by rw [h] at hr; cases hr), fun j hj => ?_⟩
    by_cases hji : j = i
    · subst hji
      exact hy.wpOp hi s1 fun w2 b2 => ⟨hK _ _ s1 b2, wpU_more (b1.trans (b2.mono b1.size)) H⟩
    · have := ready_mono hj hji
      rw [H.1] at this
      cases this
  | fuel + 1, listed, a, w, hfree, hr, hy, H => fun w1 b1 s1 => by
    refine ⟨fun h => (by rw [h] at hr; cases hr), fun j hj => ?_⟩
    by_cases hji : j = i
    · subst hji
      exact hy.wpOp hi s1 fun w2 b2 => ⟨hK _ _ s1 b2, wpU_more (b1.trans (b2.mono b1.size)) H⟩
    · have h1 := (H w1 b1 s1).2 j (ready_mono hj hji)
      obtain ⟨hjun, oj, hoj, hall⟩ := mem_ready.1 hj
      have hnot : ∀ e ∈ oj.after, Region.binds md e = true → e.on ≠ i := fun e he hb heq => by
        have h3 := hall e he hb
        have h0 := (mem_ready.1 hr).1
        rw [heq] at h3
        rcases Nat.lt_or_ge i listed.size with h' | h'
        · simp [h'] at h0 h3; rw [h0] at h3; cases h3
        · simp [Array.getElem?_eq_none h'] at h3
      have h2 := wpOp_tame hoj (hfree j oj hoj hji hjun hnot) (fun cs b => hsel i oi cs b hi) (fun cs b => hsel j oj cs b hoj) hQ hy h1
      refine wpOp_mono (fun a' w' h3 => ⟨h3.2.1, wpU_first hi hsel hQ hK fuel (listed.setIfInBounds j true) a' w' ?_ (ready_mono hr (Ne.symm hji)) h3.1 ?_⟩) h2
      · intro k ok hk hki hun hno
        refine hfree k ok hk hki ?_ hno
        by_cases hjk : j = k
        · subst hjk; exact hjun
        · rw [getD_set_ne true hjk] at hun; exact hun
      · rw [Array.setIfInBounds_comm _ _ hji]
        exact h3.2.2

/-! the moves -/
theorem wp_region_U {id : Nat} {a : Act} {w : World} {l : List Oper} (S : World → Prop) (hm : P.follows .mixedOrders = true) (h0 : S w.drew)
    (h : wpU P .any l.toArray Q S l.toArray.size (Array.replicate l.toArray.size false) a w.drew) : (Code.region id l.toArray true).wp P Q a w :=
  wp_region_any hm (wpAny_of_U _ _ _ _ h0 h)

/-- what more memory leaves alone -/
def Keeps (S : World → Prop) : Prop := ∀ w w', S w → Below w.heap.size w w' → S w'

theorem wpU_val (i : Nat) {oi : Oper} {tl : List Oper} {fuel : Nat} {listed : Array Bool} {a : Act} {w : World} (hB : Keeps S) (hi : ops.toList.drop i = oi :: tl)
    (hs : Region.noSelect ops = true) (hf : Region.free md ops listed i = true) (hr : (Region.ready md ops listed).contains i = true) (hgd : Region.wanted oi (yielded ops a.tmps) = true)
    (hQ : ∀ c a w v, Q (.panic c) (a.put oi.dst v) w → Q (.panic c) a w) (v : Value) (hy : ∀ w, S w → (execOp a.eval oi).run P w = .ok (.value v) w)
    (h : wpU P md ops Q S fuel (listed.setIfInBounds i true) (a.put oi.dst v) w) : wpU P md ops Q S (fuel + 1) listed a w :=
  wpU_first (op_of_drop hi) (Region.noSelect_spec hs) (fun c a w => hQ c a w v) hB fuel listed a w (Region.free_spec (op_of_drop hi) hf) (by simpa using hr)
    (.inl ⟨hgd, fun w hw => by rw [hy w hw]; exact ⟨rfl, rfl⟩⟩) h

theorem wpU_call (i : Nat) {oi : Oper} {tl : List Oper} {fuel : Nat} {listed : Array Bool} {a : Act} {w : World} (hB : Keeps S) (hi : ops.toList.drop i = oi :: tl)
    (hs : Region.noSelect ops = true) (hf : Region.free md ops listed i = true) (hr : (Region.ready md ops listed).contains i = true) (hgd : Region.wanted oi (yielded ops a.tmps) = true)
    (hQ : ∀ c a w v, Q (.panic c) (a.put oi.dst v) w → Q (.panic c) a w) (f : FuncId) (args : Array Value) (hrun : ∀ w, (execOp a.eval oi).run P w = .ok (.enter f args) w) (v : Value)
    (hc : ∀ w, Calls P f args w fun e w' => e = .returned v ∧ Below w.heap.size w w')
    (h : wpU P md ops Q S fuel (listed.setIfInBounds i true) (a.put oi.dst v) w) : wpU P md ops Q S (fuel + 1) listed a w :=
  wpU_first (op_of_drop hi) (Region.noSelect_spec hs) (fun c a w => hQ c a w v) hB fuel listed a w (Region.free_spec (op_of_drop hi) hf) (by simpa using hr)
    (.inl ⟨hgd, fun w _ => by rw [hrun w]; exact ⟨rfl, hc w⟩⟩) h

theorem wpU_skip (i : Nat) {oi : Oper} {tl : List Oper} {fuel : Nat} {listed : Array Bool} {a : Act} {w : World} (hB : Keeps S) (hi : ops.toList.drop i = oi :: tl)
    (hs : Region.noSelect ops = true) (hf : Region.free md ops listed i = true) (hr : (Region.ready md ops listed).contains i = true) (hgd : Region.wanted oi (yielded ops a.tmps) = false)
    (hQ : ∀ c a w v, Q (.panic c) (a.put oi.dst v) w → Q (.panic c) a w)
    (h : wpU P md ops Q S fuel (listed.setIfInBounds i true) (a.put oi.dst undef) w) : wpU P md ops Q S (fuel + 1) listed a w :=
  wpU_first (op_of_drop hi) (Region.noSelect_spec hs) (fun c a w => hQ c a w undef) hB fuel listed a w (Region.free_spec (op_of_drop hi) hf) (by simpa using hr) (.inr ⟨hgd, rfl⟩) h

theorem wpU_all {rs : List Nat} {fuel : Nat} {listed : Array Bool} {a : Act} {w : World} (hr : Region.ready md ops listed = rs) (hne : rs ≠ [])
    (h : ∀ w1, Below w.heap.size w w1 → S w1 → ∀ i ∈ rs, wpOp P ops Q i (fun a' w' => S w' ∧ wpU P md ops Q S fuel (listed.setIfInBounds i true) a' w') a w1) : wpU P md ops Q S (fuel + 1) listed a w :=
  fun w1 b1 s1 => ⟨fun h0 => absurd (hr ▸ h0) hne, hr ▸ h w1 b1 s1⟩

theorem wpU_done {fuel : Nat} {listed : Array Bool} {a : Act} {w : World} (hr : Region.ready md ops listed = []) (h : ∀ w1, Below w.heap.size w w1 → S w1 → Q .normal a w1) : wpU P md ops Q S fuel listed a w := by
  cases fuel with
  | zero => exact ⟨hr, h⟩
  | succ n => exact fun w1 b1 s1 => ⟨fun _ => h w1 b1 s1, by rw [hr]; simp⟩

/-- the one that may come up -/
theorem wpU_one (i : Nat) {oi : Oper} {tl : List Oper} {fuel : Nat} {listed : Array Bool} {a : Act} {w : World} (hi : ops.toList.drop i = oi :: tl) (hr : Region.ready md ops listed = [i]) (hgd : Region.wanted oi (yielded ops a.tmps) = true)
    (h : ∀ w1, Below w.heap.size w w1 → S w1 → oi.wp P a w1 (fun a' w' => S w' ∧ wpU P md ops Q S fuel (listed.setIfInBounds i true) a' w') Q) : wpU P md ops Q S (fuel + 1) listed a w :=
  wpU_all hr (by simp) (fun w1 b1 s1 j hj => by
    obtain rfl : j = i := by simpa using hj
    exact wpOp_step (op_of_drop hi) (fun K' hK => by rw [if_pos hgd]; exact Oper.wp_mono hK (h w1 b1 s1)))

/-- two that may come up -/
theorem wpU_two (i j : Nat) {oi oj : Oper} {tl tl' : List Oper} {fuel : Nat} {listed : Array Bool} {a : Act} {w : World} (hi : ops.toList.drop i = oi :: tl) (hj : ops.toList.drop j = oj :: tl') (hr : Region.ready md ops listed = [i, j])
    (hgd : Region.wanted oi (yielded ops a.tmps) = true) (hgd' : Region.wanted oj (yielded ops a.tmps) = true)
    (h : ∀ w1, Below w.heap.size w w1 → S w1 → oi.wp P a w1 (fun a' w' => S w' ∧ wpU P md ops Q S fuel (listed.setIfInBounds i true) a' w') Q)
    (h' : ∀ w1, Below w.heap.size w w1 → S w1 → oj.wp P a w1 (fun a' w' => S w' ∧ wpU P md ops Q S fuel (listed.setIfInBounds j true) a' w') Q) : wpU P md ops Q S (fuel + 1) listed a w :=
  wpU_all hr (by simp) (fun w1 b1 s1 k hk => by
    rcases List.mem_cons.1 hk with rfl | hk
    · exact wpOp_step (op_of_drop hi) (fun K' hK => by rw [if_pos hgd]; exact Oper.wp_mono hK (h w1 b1 s1))
    · obtain rfl : k = j := by simpa using hk
      exact wpOp_step (op_of_drop hj) (fun K' hK => by rw [if_pos hgd']; exact Oper.wp_mono hK (h' w1 b1 s1)))

/-- a store of a whole array or struct (in one step: Oper.wp of a store, as a goal, is run by every tactic) -/
theorem wpU_store_box (i : Nat) {oi : Oper} {tl : List Oper} {fuel : Nat} {listed : Array Bool} {a : Act} {w : World} (hi : ops.toList.drop i = oi :: tl) (hr : Region.ready md ops listed = [i]) (hgd : Region.wanted oi (yielded ops a.tmps) = true)
    (ty : TypeId) (x y : Operand) (ho : oi.op = .store ty x y) {g : Nat} {T : TypeId} {old cells : Array Value} (hg : Box w g T old) (hx : a.eval x = .pointer (some ⟨g, 0, none⟩)) (hy : a.eval y = .agg cells) (hsz : old.size = cells.size)
    (hi' : (P.info? ty).map (·.size) = some cells.size) (h1 : cells.all (·.oneCell') = true)
    (h : ∀ w1 w', Below w.heap.size w w1 → S w1 → Box w' g T cells → Stored w1 w' g → S w' ∧ wpU P md ops Q S fuel (listed.setIfInBounds i true) (a.put oi.dst undef) w') : wpU P md ops Q S (fuel + 1) listed a w :=
  wpU_one i hi hr hgd (fun w1 b1 s1 => wp_store_box ty x y ho (hg.after b1) hx hy hsz hi' h1 (fun w' hb st => h w1 w' b1 s1 hb st))

theorem wp_alloc_new {o : Oper} {a : Act} {w : World} {K : Act → World → Prop} (ty : TypeId) (ho : o.op = .alloc ty) (cells : Array Value)
    (hr : ∀ w, (Instr.alloc ty true (.tuple #[])).run P w = .ok (.pointer (some ⟨w.heap.size, 0, none⟩)) (w.alloc (.cells cells ty)))
    (h : ∀ g w', Box w' g ty cells → w.heap.size ≤ g → Below w.heap.size w w' → K (a.put o.dst (.pointer (some ⟨g, 0, none⟩))) w') : o.wp P a w K Q := by
  unfold Oper.wp
  rw [run_alloc_box ho cells (hr w)]
  exact h _ _ (Box.new _ _ _) (Nat.le_refl _) ((Below.refl _ _).alloc (Nat.le_refl _) _)

theorem wp_callR {o : Oper} {a : Act} {w : World} {K : Act → World → Prop} (f : FuncId) (args : Array Value) (hr : (execOp a.eval o).run P w = .ok (.enter f args) w) (R : Ending → World → Prop) (hc : Calls P f args w R)
    (h : ∀ e w', R e w' → ∃ v, e = .returned v ∧ K (a.put o.dst v) w') : o.wp P a w K Q := by
  unfold Oper.wp
  rw [hr]
  refine hc.mono fun e w' he => ?_
  obtain ⟨v, rfl, hv⟩ := h e w' he
  exact hv

theorem run_build {o : Oper} {a : Act} {w : World} {t : TypeId} {ps : Array (Nat × Operand)} (ho : o.op = .build t ps) (qs : Array (Nat × Value)) (hq : (ps.map fun (i, x) => (i, a.eval x)) = qs) (v : Value) (h : (Instr.build t qs).run P w = .ok v w) :
    (execOp a.eval o).run P w = .ok (.value v) w := by
  unfold execOp
  simp only [ho, hq, Sem.run_bind, h, Result.andThen_ok, Sem.run_pure]
end Go.Proofs.YthmigigclmogiaaDoor
namespace Go.Proofs.YthmigigclmogiaaDoor
open Go.RowKit

theorem wpU_run {P : Program} {ops : Array Oper} {Q : Exit → Act → World → Prop} {md : Region.Mode} {S : World → Prop} (i : Nat) {oi : Oper} {tl : List Oper} {fuel : Nat} {listed : Array Bool} {a : Act} {w : World} (hi : ops.toList.drop i = oi :: tl) (hr : Region.ready md ops listed = [i]) (hgd : Region.wanted oi (yielded ops a.tmps) = true)
    (v : World → Value) (W : World → World) (h : ∀ w1, Below w.heap.size w w1 → S w1 → (execOp a.eval oi).run P w1 = .ok (.value (v w1)) (W w1) ∧ S (W w1) ∧ wpU P md ops Q S fuel (listed.setIfInBounds i true) (a.put oi.dst (v w1)) (W w1)) : wpU P md ops Q S (fuel + 1) listed a w :=
  wpU_one i hi hr hgd (fun w1 b1 s1 => by
    obtain ⟨h1, h2, h3⟩ := h w1 b1 s1
    unfold Oper.wp
    rw [h1]
    exact ⟨h2, h3⟩)

theorem numL_small (n : Int) (h : n < 10) : numL n = [UInt8.ofNat (48 + n.toNat)] := by
  unfold numL; rw [Lib.decDigits, dif_pos (by omega)]
theorem numL_step (n : Int) (h : 10 ≤ n) : numL n = numL (n / 10) ++ [UInt8.ofNat (48 + (n % 10).toNat)] := by
  unfold numL
  rw [Lib.decDigits, dif_neg (by omega)]
  congr 2
  · omega
  · congr 1; omega

theorem decDigits_len : ∀ (k u : Nat), u < 10 ^ (k + 1) → (Lib.decDigits u).length ≤ k + 1
  | 0, u, h => by rw [Lib.decDigits, dif_pos (by simpa using h)]; simp
  | k + 1, u, h => by
    rw [Lib.decDigits]
    split
    · simp
    · rw [List.length_append]
      have := decDigits_len k (u / 10) (by rw [Nat.pow_succ] at h; omega)
      simp; omega
theorem numL_len (n : Int) (h : n ≤ 9223372036854775807) : (numL n).length ≤ 19 := decDigits_len 18 _ (by omega)
theorem cat_ba (a b : List UInt8) : (⟨a.toArray⟩ : ByteArray) ++ ⟨b.toArray⟩ = ⟨(a ++ b).toArray⟩ := by apply ByteArray.ext; simp

theorem sl_cell1 (w : World) (c : UInt8) (z : Int) (hz : z = (c.toNat : Int)) : Sl (w.alloc (.cells #[.int .u8 z] 5)) (some ⟨w.heap.size, 0, none⟩) 1 1 [c] := by
  subst hz
  refine ⟨rfl, Nat.le_refl _, by unfold maxLen; omega, (fun h => by cases h), .inr ⟨w.heap.size, 0, rfl, fun i hi => ?_⟩⟩
  obtain rfl : i = 0 := by omega
  simp
theorem ofNat_dig (r : Nat) (h : r ≤ 9) : (48 : Int) + (r : Int) = ((UInt8.ofNat (48 + r)).toNat : Int) := by
  simp; omega

end Go.Proofs.YthmigigclmogiaaDoor
namespace Go.Proofs.YthmigigclmogiaaDoor
open Go.RowKit

/-- bytes with their length -/
def textL (l : List UInt8) : List UInt8 := numL l.length ++ 58 :: l
theorem textL_len (l : List UInt8) (h : l.length ≤ 9223372036854775807) : (textL l).length ≤ l.length + 20 := by
  have := numL_len (l.length : Int) (by omega)
  simp only [textL, List.length_append, List.length_cons]
  omega
mutual
/-- the canonical form -/
def Sx.form : Sx → List UInt8
  | .mk l h hi da ks => if l then 40 :: (Sx.formL ks ++ [41]) else (if h then 91 :: (textL hi ++ [93]) else []) ++ textL da
def Sx.formL : List Sx → List UInt8
  | [] => []
  | k :: r => k.form ++ Sx.formL r
end
theorem Sx.formL_append (a b : List Sx) : Sx.formL (a ++ b) = Sx.formL a ++ Sx.formL b := by
  induction a with
  | nil => rfl
  | cons k a ih => simp only [List.cons_append, Sx.formL, ih, List.append_assoc]
theorem Sx.formL_snoc (ks : List Sx) (k : Nat) (h : k < ks.length) : Sx.formL (ks.take (k + 1)) = Sx.formL (ks.take k) ++ ks[k].form := by
  rw [List.take_succ_eq_append_getElem h, Sx.formL_append]
  simp [Sx.formL]
theorem form_def (l h : Bool) (hi da : List UInt8) (ks : List Sx) : (Sx.mk l h hi da ks).form = if l then 40 :: (Sx.formL ks ++ [41]) else (if h then 91 :: (textL hi ++ [93]) else []) ++ textL da := by simp only [Sx.form]
theorem Sx.formL_take (ks : List Sx) (k : Nat) : (Sx.formL (ks.take k)).length ≤ (Sx.formL ks).length := by
  conv => rhs; rw [← List.take_append_drop k ks, Sx.formL_append]
  simp
theorem Sx.formL_mem {ks : List Sx} {k : Sx} (h : k ∈ ks) : k.form.length ≤ (Sx.formL ks).length := by
  induction ks with
  | nil => cases h
  | cons a r ih => rcases List.mem_cons.1 h with rfl | h
                   · simp only [Sx.formL, List.length_append]; omega
                   · have := ih h; simp only [Sx.formL, List.length_append]; omega

/-- bytes of the call's own are handed back -/
def OutP (l : List UInt8) (w : World) (e : Ending) (w' : World) : Prop := ∃ v, e = .returned v ∧ OwnB w' w.heap.size v l ∧ Below w.heap.size w w'

theorem below_grown {B : Nat} {w0 w w' : World} {row : Option Nat} (h : Below B w0 w) (hg : w.grownBy w' row) (hrow : ∀ k, row = some k → B ≤ k) (hB : B ≤ w.heap.size) : Below B w0 w' :=
  h.grown hg hB hrow

end Go.Proofs.YthmigigclmogiaaDoor
namespace Go.Proofs.YthmigigclmogiaaDoor
open Go.RowKit
set_option linter.unusedSimpArgs false
set_option linter.unusedVariables false

theorem Box.grown {w w' : World} {g : Nat} {T : TypeId} {cs : Array Value} (h : Box w g T cs) {row : Option Nat} (hg : w.grownBy w' row) (hne : ∀ k, row = some k → g ≠ k) : Box w' g T cs :=
  (hg.block g h.lt (fun e => hne g e.symm rfl)).trans h
theorem OwnB.empty (w : World) (B : Nat) (hB : B ≤ w.heap.size) : OwnB (w.alloc (.cells #[] 5)) B (.slice (some ⟨w.heap.size, 0, none⟩) 0 0) [] := by
  have := OwnG.new w B 1 hB #[] 5 0 0 (Nat.le_refl _) (Nat.zero_le _) rfl
  simpa [OwnB, Lib.byteCells] using this
/-- an append to bytes of the call's own, in a world that has come of w -/
theorem OwnB.alloc {w : World} {B : Nat} {v : Value} {l : List UInt8} (h : OwnB w B v l) (o : Obj) : OwnB (w.alloc o) B v l := OwnG.alloc h o
theorem own_step {w w1 w2 : World} {v : Value} {l : List UInt8} (hb : Below w.heap.size w w1) (ho : OwnB w1 (w.heap.size + 1) v l) (hg : w1.grownBy w2 v.ownBlock) :
    Below w.heap.size w w2 ∧ (∀ T cs, Box w1 w.heap.size T cs → Box w2 w.heap.size T cs) ∧ w1.heap.size ≤ w2.heap.size :=
  ⟨below_grown hb hg (fun k hk => by have := (ho.own k hk).1; omega) hb.size, fun T cs hx => hx.grown hg (fun k hk => by have := (ho.own k hk).1; omega), hg.size⟩

end Go.Proofs.YthmigigclmogiaaDoor
namespace Go.Proofs.YthmigigclmogiaaDoor
open Go.RowKit
set_option linter.unusedSimpArgs false
set_option linter.unusedVariables false

def Sx.may (s : Sx) : Bool := s.clean && decide (s.nodes ≤ 512) && decide (s.deep ≤ 16) && decide (s.form.length ≤ 4096)

/-- what is not wide -/
theorem wide_no {s : Sx} : ∀ {m : Nat}, s.wide m = false → m ≤ 60 ∧ s.ks.length ≤ 700 ∧ s.hi.length ≤ 5000 ∧ s.da.length ≤ 5000 ∧ ∀ k ∈ s.ks, k.wide (m + 1) = false := by
  intro m h
  obtain ⟨l, hh, hi, da, ks⟩ := s
  rw [wide_def] at h
  simp only [Bool.or_eq_false_iff, decide_eq_false_iff_not] at h
  obtain ⟨⟨⟨⟨h1, h2⟩, h3⟩, h4⟩, h5⟩ := h
  refine ⟨by omega, by simp only [Sx.ks]; omega, by simp only [Sx.hi]; omega, by simp only [Sx.da]; omega, fun k hk => ?_⟩
  by_cases e : k.wide (m + 1) = true
  · rw [Sx.wideL_yes (ks := ks) hk e] at h5; cases h5
  · simpa using e
theorem deepL_le {ks : List Sx} {n : Nat} (h : ∀ k ∈ ks, k.deep ≤ n) : Sx.deepL ks ≤ n := by
  induction ks with
  | nil => simp [Sx.deepL]
  | cons a r ih => have h1 := h a List.mem_cons_self; have h2 := ih (fun k hk => h k (List.mem_cons_of_mem _ hk)); simp only [Sx.deepL]; omega
theorem deep_wide (s : Sx) : ∀ m, s.wide m = false → s.deep + m ≤ 61 := by
  induction s using Sx.ind with
  | h l hh hi da ks ih =>
    intro m h
    obtain ⟨h1, _, _, _, h2⟩ := wide_no h
    have : Sx.deepL ks ≤ 60 - m := deepL_le fun k hk => by have := ih k hk (m + 1) (h2 k hk); omega
    simp only [Sx.deep]
    split <;> omega
theorem formL_le {ks : List Sx} (h : ∀ k ∈ ks, k.form.length ≤ 10100 * k.nodes) : (Sx.formL ks).length ≤ 10100 * Sx.nodesL ks := by
  induction ks with
  | nil => simp [Sx.formL]
  | cons a r ih => have h1 := h a List.mem_cons_self; have h2 := ih (fun k hk => h k (List.mem_cons_of_mem _ hk)); simp only [Sx.formL, Sx.nodesL, List.length_append]; omega
theorem form_wide (s : Sx) : ∀ m, s.wide m = false → s.form.length ≤ 10100 * s.nodes := by
  induction s using Sx.ind with
  | h l hh hi da ks ih =>
    intro m h
    obtain ⟨h1, _, h3, h4, h2⟩ := wide_no h
    simp only [Sx.hi, Sx.da] at h3 h4
    have := formL_le fun k hk => ih k hk (m + 1) (h2 k hk)
    have e1 := textL_len hi (by omega)
    have e2 := textL_len da (by omega)
    rw [form_def]
    simp only [Sx.nodes]
    cases l <;> cases hh <;> simp <;> omega

end Go.Proofs.YthmigigclmogiaaDoor
namespace Go.Proofs.YthmigigclmogiaaDoor
open Go.RowKit

variable {P : Program} {ops : Array Oper} {Q : Exit → Act → World → Prop} {md : Region.Mode} {S : World → Prop}

theorem wp_store_cell {o : Oper} {a : Act} {w : World} {K : Act → World → Prop} (ty : TypeId) (x y : Operand) (ho : o.op = .store ty x y)
    {b off : Nat} {k : IntKind} {n : Int} (hx : a.eval x = .pointer (some ⟨b, off, none⟩)) (hy : a.eval y = .int k n) {u : Value} (hc : w.cell? ⟨b, off, none⟩ = some u) (hf : w.frozen? ⟨b, off, none⟩ = false) (hz : ∀ w, (sizeOf ty).run P w = .ok 1 w)
    (h : K (a.put o.dst undef) (w.setCell ⟨b, off, none⟩ (.int k n))) : o.wp P a w K Q := by
  unfold Oper.wp execOp
  simp only [ho, hx, hy]
  simp [go_sem, hz, hc, hf]
  exact h

theorem Stored.one (w : World) (g j : Nat) (v : Value) : Stored w (w.setCell ⟨g, j, none⟩ v) g := (Stored.refl w g).setCell j v

/-- a store of one cell of a block that is known whole -/
theorem wpU_store_cell (i : Nat) {oi : Oper} {tl : List Oper} {fuel : Nat} {listed : Array Bool} {a : Act} {w : World} (hi : ops.toList.drop i = oi :: tl) (hr : Region.ready md ops listed = [i]) (hgd : Region.wanted oi (yielded ops a.tmps) = true)
    (ty : TypeId) (x y : Operand) (ho : oi.op = .store ty x y) {g : Nat} {T : TypeId} {old : Array Value} (hg : Box w g T old) (j : Nat) {k : IntKind} {n : Int} (hx : a.eval x = .pointer (some ⟨g, j, none⟩)) (hy : a.eval y = .int k n) (hj : j < old.size) (hz : ∀ w, (sizeOf ty).run P w = .ok 1 w)
    (h : ∀ w1 w', Below w.heap.size w w1 → S w1 → Box w' g T (old.setIfInBounds j (.int k n)) → Stored w1 w' g → S w' ∧ wpU P md ops Q S fuel (listed.setIfInBounds i true) (a.put oi.dst undef) w') : wpU P md ops Q S (fuel + 1) listed a w :=
  wpU_one i hi hr hgd (fun w1 b1 s1 =>
    have h1 := hg.after b1
    wp_store_cell ty x y ho hx hy (h1.cell j (Array.getElem?_eq_getElem hj)) (h1.frozen j) hz (h w1 _ b1 s1 (h1.set j _) (Stored.one _ _ _ _)))

theorem wpList_store_cell {rest : List Oper} {o : Oper} {a : Act} {w : World} (hgd : Region.wanted o (yielded ops a.tmps) = true) (ty : TypeId) (x y : Operand) (ho : o.op = .store ty x y)
    {g : Nat} {T : TypeId} {old : Array Value} (hg : Box w g T old) (j : Nat) {k : IntKind} {n : Int} (hx : a.eval x = .pointer (some ⟨g, j, none⟩)) (hy : a.eval y = .int k n) (hj : j < old.size) (hz : ∀ w, (sizeOf ty).run P w = .ok 1 w)
    (h : ∀ w', Box w' g T (old.setIfInBounds j (.int k n)) → Stored w w' g → wpList P ops Q rest (a.put o.dst undef) w') : wpList P ops Q (o :: rest) a w :=
  wpList_want hgd fun _ hK => wp_store_cell ty x y ho hx hy (hg.cell j (Array.getElem?_eq_getElem hj)) (hg.frozen j) hz (hK _ _ (h _ (hg.set j _) (Stored.one _ _ _ _)))

/-- the one that may come up yields a value, in whatever world has come of this one by more memory -/
theorem wpU_oneval (i : Nat) {oi : Oper} {tl : List Oper} {fuel : Nat} {listed : Array Bool} {a : Act} {w : World} (hi : ops.toList.drop i = oi :: tl) (hr : Region.ready md ops listed = [i]) (hgd : Region.wanted oi (yielded ops a.tmps) = true)
    (v : Value) (hy : ∀ w1, Below w.heap.size w w1 → S w1 → (execOp a.eval oi).run P w1 = .ok (.value v) w1)
    (h : wpU P md ops Q S fuel (listed.setIfInBounds i true) (a.put oi.dst v) w) : wpU P md ops Q S (fuel + 1) listed a w :=
  wpU_one i hi hr hgd (fun w1 b1 s1 => by
    unfold Oper.wp
    rw [hy w1 b1 s1]
    exact ⟨s1, wpU_more b1 h⟩)

/-- either of two may come up, each yields a value -/
theorem wpU_fork (i j : Nat) {oi oj : Oper} {tl tl' : List Oper} {fuel : Nat} {listed : Array Bool} {a : Act} {w : World} (hi : ops.toList.drop i = oi :: tl) (hj : ops.toList.drop j = oj :: tl') (hr : Region.ready md ops listed = [i, j]) (v u : Value)
    (hgd : Region.wanted oi (yielded ops a.tmps) = true) (hgd' : Region.wanted oj (yielded ops a.tmps) = true)
    (hy : ∀ w1, Below w.heap.size w w1 → S w1 → (execOp a.eval oi).run P w1 = .ok (.value v) w1) (hy' : ∀ w1, Below w.heap.size w w1 → S w1 → (execOp a.eval oj).run P w1 = .ok (.value u) w1)
    (h : wpU P md ops Q S fuel (listed.setIfInBounds i true) (a.put oi.dst v) w) (h' : wpU P md ops Q S fuel (listed.setIfInBounds j true) (a.put oj.dst u) w) : wpU P md ops Q S (fuel + 1) listed a w :=
  wpU_two i j hi hj hr hgd hgd'
    (fun w1 b1 s1 => by
      unfold Oper.wp
      rw [hy w1 b1 s1]
      exact ⟨s1, wpU_more b1 h⟩)
    (fun w1 b1 s1 => by
      unfold Oper.wp
      rw [hy' w1 b1 s1]
      exact ⟨s1, wpU_more b1 h'⟩)

theorem stored_setRow {w : World} {g : Nat} {T : TypeId} {old : Array Value} (hg : Box w g T old) (cs : Array Value) : Box (w.setRow g cs) g T cs ∧ Stored w (w.setRow g cs) g :=
  ⟨setRow_heap w g old cs T (0, 0) hg, ⟨fun k hk => setRow_other w g k cs hk, by simp, fun _ _ hB hb => below_setRow hb hB cs⟩⟩

theorem wp_copy_box {o : Oper} {a : Act} {w : World} {K : Act → World → Prop} (d s : Operand) (t e : TypeId) (ho : o.op = .call { callee := .builtin .copy, args := #[d, s], argTypes := #[t, t] })
    {g g' : Nat} {T T' : TypeId} {old src : Array Value} (hg : Box w g T old) (hg' : Box w g' T' src) {n c c' : Nat} (hd : a.eval d = .slice (some ⟨g, 0, none⟩) n c) (hs : a.eval s = .slice (some ⟨g', 0, none⟩) src.size c')
    (hu : P.underlying t = some (.slice e)) (hz : (P.info? e).map (·.size) = some 1) (hle : src.size ≤ n) (hn : n ≤ old.size) (h1 : ∀ v ∈ src.toList, v.oneCell' = true)
    (h : ∀ w', Box w' g T (src.toList ++ old.toList.drop src.size).toArray → Stored w w' g → K (a.put o.dst (.int .i64 src.size)) w') : o.wp P a w K Q := by
  have hrun := run_copy_row (P := P) w t t o.type e g 0 n c ⟨g', 0, none⟩ src.size c' old T src.toList hu hz hg (by rw [Array.length_toList]; exact (Nat.min_eq_left hle).symm)
    (fun j v hv => by
      rw [Addr.add_lit, Nat.zero_add]
      exact hg'.cell j (by simpa using hv)) (by rw [Array.length_toList]; omega) h1
  unfold Oper.wp
  simp [execOp, ho, resolve, invoke, builtin, hd, hs, hrun, Result.andThen]
  have h2 := stored_setRow hg (src.toList ++ old.toList.drop src.size).toArray
  exact h _ h2.1 h2.2

theorem wpU_copy_box (i : Nat) {oi : Oper} {tl : List Oper} {fuel : Nat} {listed : Array Bool} {a : Act} {w : World} (hi : ops.toList.drop i = oi :: tl) (hr : Region.ready md ops listed = [i]) (hgd : Region.wanted oi (yielded ops a.tmps) = true)
    (d s : Operand) (t e : TypeId) (ho : oi.op = .call { callee := .builtin .copy, args := #[d, s], argTypes := #[t, t] })
    {g g' : Nat} {T T' : TypeId} {old src : Array Value} (hg : Box w g T old) (hg' : Box w g' T' src) {n c c' : Nat} (hd : a.eval d = .slice (some ⟨g, 0, none⟩) n c) (hs : a.eval s = .slice (some ⟨g', 0, none⟩) src.size c')
    (hu : P.underlying t = some (.slice e)) (hz : (P.info? e).map (·.size) = some 1) (hle : src.size ≤ n) (hn : n ≤ old.size) (h1 : ∀ v ∈ src.toList, v.oneCell' = true)
    (h : ∀ w1 w', Below w.heap.size w w1 → S w1 → Box w' g T (src.toList ++ old.toList.drop src.size).toArray → Stored w1 w' g → S w' ∧ wpU P md ops Q S fuel (listed.setIfInBounds i true) (a.put oi.dst (.int .i64 src.size)) w') : wpU P md ops Q S (fuel + 1) listed a w :=
  wpU_one i hi hr hgd (fun w1 b1 s1 => wp_copy_box d s t e ho (hg.after b1) (hg'.after b1) hd hs hu hz hle hn h1 (fun w' hb st => h w1 w' b1 s1 hb st))

/-- a call that always hands back the same, in each world of the class -/
theorem wpU_callS (i : Nat) {oi : Oper} {tl : List Oper} {fuel : Nat} {listed : Array Bool} {a : Act} {w : World} (hB : Keeps S) (hi : ops.toList.drop i = oi :: tl)
    (hs : Region.noSelect ops = true) (hf : Region.free md ops listed i = true) (hr : (Region.ready md ops listed).contains i = true) (hgd : Region.wanted oi (yielded ops a.tmps) = true)
    (hQ : ∀ c a w v, Q (.panic c) (a.put oi.dst v) w → Q (.panic c) a w) (f : FuncId) (args : Array Value) (hrun : ∀ w, (execOp a.eval oi).run P w = .ok (.enter f args) w) (v : Value)
    (hc : ∀ w, S w → Calls P f args w fun e w' => e = .returned v ∧ Below w.heap.size w w')
    (h : wpU P md ops Q S fuel (listed.setIfInBounds i true) (a.put oi.dst v) w) : wpU P md ops Q S (fuel + 1) listed a w :=
  wpU_first (op_of_drop hi) (Region.noSelect_spec hs) (fun c a w => hQ c a w v) hB fuel listed a w (Region.free_spec (op_of_drop hi) hf) (by simpa using hr)
    (.inl ⟨hgd, fun w hw => by rw [hrun w]; exact ⟨rfl, hc w hw⟩⟩) h
end Go.Proofs.YthmigigclmogiaaDoor
namespace Go.Proofs.YthmigigclmogiaaDoor
open Go.RowKit

variable {P : Program} {ops : Array Oper} {Q : Exit → Act → World → Prop} {md : Region.Mode} {S : World → Prop}

/-- j waits for i, by way of others too -/
def reachB (md : Region.Mode) (ops : Array Oper) : Nat → Nat → Nat → Bool
  | 0, _, _ => false
  | f + 1, j, i => match ops[j]? with
    | some o => o.after.toList.any fun e => Region.binds md e && (e.on == i || reachB md ops f e.on i)
    | none => false
/-- what is done has all done that it waits for -/
def closedB (md : Region.Mode) (ops : Array Oper) (listed : Array Bool) : Bool :=
  (List.range ops.size).all fun k => !(listed.getD k false) || match ops[k]? with
    | some o => o.after.toList.all fun e => !(Region.binds md e) || listed.getD e.on false
    | none => true
def Closed (md : Region.Mode) (ops : Array Oper) (listed : Array Bool) : Prop :=
  ∀ k o, ops[k]? = some o → listed.getD k false = true → ∀ e ∈ o.after, Region.binds md e = true → listed.getD e.on false = true

theorem closed_of {listed : Array Bool} (h : closedB md ops listed = true) : Closed md ops listed := by
  intro k o ho hk e he hb
  have hlt : k < ops.size := (Array.getElem?_eq_some_iff.1 ho).1
  have := List.all_eq_true.1 h k (List.mem_range.2 hlt)
  rw [hk, ho] at this
  simp only [Bool.not_true, Bool.false_or] at this
  have := List.all_eq_true.1 this e (by simpa using he)
  rw [hb] at this
  simpa using this

theorem getD_set_self (listed : Array Bool) (j : Nat) (h : j < listed.size) : (listed.setIfInBounds j true).getD j false = true := by simp [h]
theorem getD_set_other {listed : Array Bool} {j k : Nat} (h : j ≠ k) : (listed.setIfInBounds j true).getD k false = listed.getD k false := by
  simp [h]
theorem getD_set_mono {listed : Array Bool} {j k : Nat} (h : listed.getD k false = true) : (listed.setIfInBounds j true).getD k false = true := by
  by_cases e : j = k
  · subst e
    refine getD_set_self _ _ ?_
    rcases Nat.lt_or_ge j listed.size with h' | h'
    · exact h'
    · simp [Array.getElem?_eq_none h'] at h
  · rw [getD_set_other e]; exact h
theorem Closed.set {listed : Array Bool} {j : Nat} (h : Closed md ops listed) (hj : j ∈ Region.ready md ops listed) : Closed md ops (listed.setIfInBounds j true) := by
  intro k o ho hk e he hb
  by_cases hjk : j = k
  · subst hjk
    obtain ⟨_, oj, hoj, hall⟩ := mem_ready.1 hj
    obtain rfl : oj = o := Option.some.inj (hoj.symm.trans ho)
    exact getD_set_mono (hall e he hb)
  · rw [getD_set_other hjk] at hk
    exact getD_set_mono (h k o ho hk e he hb)

theorem reach_not {listed : Array Bool} {i : Nat} (hc : Closed md ops listed) (hi : listed.getD i false = false) : ∀ (f j : Nat), reachB md ops f j i = true → j ∉ Region.ready md ops listed ∧ listed.getD j false = false
  | 0, _, h => by cases h
  | f + 1, j, h => by
    unfold reachB at h
    cases ho : ops[j]? with
    | none => rw [ho] at h; cases h
    | some o =>
      rw [ho] at h
      obtain ⟨e, he, h2⟩ := List.any_eq_true.1 h
      simp only [Bool.and_eq_true, Bool.or_eq_true, beq_iff_eq] at h2
      have hoff : listed.getD e.on false = false := by
        rcases h2.2 with h3 | h3
        · rw [h3]; exact hi
        · exact (reach_not hc hi f e.on h3).2
      refine ⟨fun hj => ?_, ?_⟩
      · obtain ⟨_, oj, hoj, hall⟩ := mem_ready.1 hj
        obtain rfl : oj = o := Option.some.inj (hoj.symm.trans ho)
        have := hall e (by simpa using he) h2.1
        rw [hoff] at this
        cases this
      · by_cases hj : listed.getD j false = true
        · have := hc j o ho hj e (by simpa using he) h2.1
          rw [hoff] at this
          cases this
        · simpa using hj

/-- whatever order is picked from here on; ws: the operations that write -/
def wpW (P : Program) (md : Region.Mode) (ops : Array Oper) (Q : Exit → Act → World → Prop) (S : World → Prop) (ws : List Nat) : Nat → Array Bool → Act → World → Prop
  | 0, listed, a, w => Region.ready md ops listed = [] ∧ ∀ w1, Below w.heap.size w w1 → S w1 → Q .normal a w1
  | fuel + 1, listed, a, w => ∀ w1, Below w.heap.size w w1 → S w1 → (Region.ready md ops listed = [] → Q .normal a w1) ∧
      ∀ i ∈ Region.ready md ops listed, wpOp P ops Q i (fun a' w' => if ws.contains i then wpU P md ops Q (fun _ => True) fuel (listed.setIfInBounds i true) a' w' else S w' ∧ wpW P md ops Q S ws fuel (listed.setIfInBounds i true) a' w') a w1

theorem wpW_more {ws : List Nat} : ∀ {fuel : Nat} {listed : Array Bool} {a : Act} {w w2 : World}, Below w.heap.size w w2 → wpW P md ops Q S ws fuel listed a w → wpW P md ops Q S ws fuel listed a w2
  | 0, _, _, _, _, hb, h => ⟨h.1, fun w1 b1 s1 => h.2 w1 (hb.trans (b1.mono hb.size)) s1⟩
  | _ + 1, _, _, _, _, hb, h => fun w1 b1 s1 => h w1 (hb.trans (b1.mono hb.size)) s1

theorem wpAny_of_W {ws : List Nat} : ∀ (fuel : Nat) (listed : Array Bool) (a : Act) (w : World), S w → wpW P md ops Q S ws fuel listed a w → wpAny P md ops Q fuel listed a w
  | 0, _, _, w, hS, h => ⟨h.1, h.2 w (Below.refl _ _) hS⟩
  | fuel + 1, _, _, w, hS, h => ⟨(h w (Below.refl _ _) hS).1, fun i hi => wpOp_mono (fun a' w' h' => by
      split at h'
      · exact wpAny_of_U fuel _ a' w' trivial h'
      · exact wpAny_of_W fuel _ a' w' h'.1 h'.2) ((h w (Below.refl _ _) hS).2 i hi)⟩

theorem keeps_true : ∀ w w' : World, True → Below w.heap.size w w' → True := fun _ _ _ _ => trivial

theorem wpW_first {ws : List Nat} {i : Nat} {oi : Oper} {v : Value} (hi : ops[i]? = some oi) (hsel : ∀ (j : Nat) (o : Oper) cs b, ops[j]? = some o → o.op ≠ .select cs b)
    (hQ : ∀ c a w, Q (.panic c) (a.put oi.dst v) w → Q (.panic c) a w) (hK : ∀ w w', S w → Below w.heap.size w w' → S w') (hwi : ws.contains i = false)
    (F : Nat) :
    ∀ (fuel : Nat) (listed : Array Bool) (a : Act) (w : World), ((∀ j, ws.contains j = true → reachB md ops F j i = true) ∨ Tame P ops (fun _ => True) oi v a) → Closed md ops listed →
      (∀ j oj, ops[j]? = some oj → j ≠ i → listed.getD j true = false → (∀ e ∈ oj.after, Region.binds md e = true → e.on ≠ i) → oi.apart ops oj = true) →
      i ∈ Region.ready md ops listed → Tame P ops S oi v a → wpW P md ops Q S ws fuel (listed.setIfInBounds i true) (a.put oi.dst v) w → wpW P md ops Q S ws (fuel + 1) listed a w
  | 0, listed, a, w, _, _, _, hr, hy, H => fun w1 b1 s1 => by
    refine ⟨fun h => (by rw [h] at hr; cases hr), fun j hj => ?_⟩
    by_cases hji : j = i
    · subst hji
      refine hy.wpOp hi s1 fun w2 b2 => ?_
      rw [if_neg (by rw [hwi]; simp)]
      exact ⟨hK _ _ s1 b2, wpW_more (b1.trans (b2.mono b1.size)) H⟩
    · have := ready_mono hj hji
      rw [H.1] at this
      cases this
  | fuel + 1, listed, a, w, hb, hc, hfree, hr, hy, H => fun w1 b1 s1 => by
    refine ⟨fun h => (by rw [h] at hr; cases hr), fun j hj => ?_⟩
    by_cases hji : j = i
    · subst hji
      refine hy.wpOp hi s1 fun w2 b2 => ?_
      rw [if_neg (by rw [hwi]; simp)]
      exact ⟨hK _ _ s1 b2, wpW_more (b1.trans (b2.mono b1.size)) H⟩
    · have h1 := (H w1 b1 s1).2 j (ready_mono hj hji)
      obtain ⟨hjun, oj, hoj, hall⟩ := mem_ready.1 hj
      have hun := (mem_ready.1 hr).1
      have hnot : ∀ e ∈ oj.after, Region.binds md e = true → e.on ≠ i := fun e he hb heq => by
        have h3 := hall e he hb
        have h0 := hun
        rw [heq] at h3
        rcases Nat.lt_or_ge i listed.size with h' | h'
        · simp [h'] at h0 h3; rw [h0] at h3; cases h3
        · simp [Array.getElem?_eq_none h'] at h3
      have hfree' : ∀ k ok, ops[k]? = some ok → k ≠ i → (listed.setIfInBounds j true).getD k true = false → (∀ e ∈ ok.after, Region.binds md e = true → e.on ≠ i) → oi.apart ops ok = true := by
        intro k ok hk hki hun hno
        refine hfree k ok hk hki ?_ hno
        by_cases hjk : j = k
        · subst hjk; exact hjun
        · rw [getD_set_ne true hjk] at hun; exact hun
      by_cases hw : ws.contains j = true
      · rcases hb with hb | hb
        · exact absurd hj (reach_not hc (getD_both hun) F j (hb j hw)).1
        · have h2 := wpOp_tame hoj (hfree j oj hoj hji hjun hnot) (fun cs b => hsel i oi cs b hi) (fun cs b => hsel j oj cs b hoj) hQ hb h1
          refine wpOp_mono (fun a' w' h3 => ?_) h2
          rw [if_pos hw]
          have h4 := h3.2
          rw [if_pos hw] at h4
          refine wpU_first hi hsel hQ keeps_true fuel (listed.setIfInBounds j true) a' w' hfree' (ready_mono hr (Ne.symm hji)) h3.1 ?_
          rw [Array.setIfInBounds_comm _ _ hji]
          exact h4
      · have h2 := wpOp_tame hoj (hfree j oj hoj hji hjun hnot) (fun cs b => hsel i oi cs b hi) (fun cs b => hsel j oj cs b hoj) hQ hy h1
        have hbk : ∀ (a' : Act), execOp a'.eval oi = execOp a.eval oi → Region.wanted oi (yielded ops a'.tmps) = Region.wanted oi (yielded ops a.tmps) → (∀ j, ws.contains j = true → reachB md ops F j i = true) ∨ Tame P ops (fun _ => True) oi v a' := fun a' e1 e2 => hb.imp id fun t => t.of_same e1 e2
        rcases hb with hb | hb
        · refine wpOp_mono (fun a' w' h3 => ?_) h2
          rw [if_neg hw]
          have h4 := h3.2
          rw [if_neg hw] at h4
          refine ⟨h4.1, wpW_first hi hsel hQ hK hwi F fuel (listed.setIfInBounds j true) a' w' (.inl hb) (hc.set hj) hfree' (ready_mono hr (Ne.symm hji)) h3.1 ?_⟩
          rw [Array.setIfInBounds_comm _ _ hji]
          exact h4.2
        · have h5 := wpOp_tame hoj (hfree j oj hoj hji hjun hnot) (fun cs b => hsel i oi cs b hi) (fun cs b => hsel j oj cs b hoj) hQ hb h1
          refine wpOp_mono (fun a' w' h3 => ?_) h5
          rw [if_neg hw]
          have h4 := h3.2
          rw [if_neg hw] at h4
          refine ⟨h4.1, wpW_first hi hsel hQ hK hwi F fuel (listed.setIfInBounds j true) a' w' (.inr h3.1) (hc.set hj) hfree' (ready_mono hr (Ne.symm hji)) ?_ ?_⟩
          · rcases h3.1 with ⟨h6, h7⟩ | h6
            · exact .inl ⟨h6, fun w _ => h7 w trivial⟩
            · exact .inr h6
          · rw [Array.setIfInBounds_comm _ _ hji]
            exact h4.2

/-! the moves -/
theorem wp_region_W {id : Nat} {a : Act} {w : World} {l : List Oper} (ws : List Nat) (S : World → Prop) (hm : P.follows .mixedOrders = true) (h0 : S w.drew)
    (h : wpW P .any l.toArray Q S ws l.toArray.size (Array.replicate l.toArray.size false) a w.drew) : (Code.region id l.toArray true).wp P Q a w :=
  wp_region_any hm (wpAny_of_W _ _ _ _ h0 h)

/-- may i be taken first, though it reads? -/
def aheadB (md : Region.Mode) (ops : Array Oper) (ws : List Nat) (listed : Array Bool) (i : Nat) : Bool :=
  !(ws.contains i) && closedB md ops listed && ws.all (fun j => reachB md ops ops.size j i)

theorem wpW_val (i : Nat) {ws : List Nat} {oi : Oper} {tl : List Oper} {fuel : Nat} {listed : Array Bool} {a : Act} {w : World} (hB : Keeps S) (hi : ops.toList.drop i = oi :: tl)
    (hs : Region.noSelect ops = true) (hf : Region.free md ops listed i = true) (hr : (Region.ready md ops listed).contains i = true) (hah : aheadB md ops ws listed i = true) (hgd : Region.wanted oi (yielded ops a.tmps) = true)
    (hQ : ∀ c a w v, Q (.panic c) (a.put oi.dst v) w → Q (.panic c) a w) (v : Value) (hy : ∀ w, S w → (execOp a.eval oi).run P w = .ok (.value v) w)
    (h : wpW P md ops Q S ws fuel (listed.setIfInBounds i true) (a.put oi.dst v) w) : wpW P md ops Q S ws (fuel + 1) listed a w := by
  simp only [aheadB, Bool.and_eq_true, Bool.not_eq_true'] at hah
  exact wpW_first (op_of_drop hi) (Region.noSelect_spec hs) (fun c a w => hQ c a w v) hB hah.1.1 ops.size fuel listed a w (.inl fun j hj => List.all_eq_true.1 hah.2 j (by simpa using hj)) (closed_of hah.1.2)
    (Region.free_spec (op_of_drop hi) hf) (by simpa using hr) (.inl ⟨hgd, fun w hw => by rw [hy w hw]; exact ⟨rfl, rfl⟩⟩) h

theorem wpW_skip (i : Nat) {ws : List Nat} {oi : Oper} {tl : List Oper} {fuel : Nat} {listed : Array Bool} {a : Act} {w : World} (hB : Keeps S) (hi : ops.toList.drop i = oi :: tl)
    (hs : Region.noSelect ops = true) (hf : Region.free md ops listed i = true) (hr : (Region.ready md ops listed).contains i = true) (hah : (!(ws.contains i) && closedB md ops listed) = true) (hgd : Region.wanted oi (yielded ops a.tmps) = false)
    (hQ : ∀ c a w v, Q (.panic c) (a.put oi.dst v) w → Q (.panic c) a w)
    (h : wpW P md ops Q S ws fuel (listed.setIfInBounds i true) (a.put oi.dst undef) w) : wpW P md ops Q S ws (fuel + 1) listed a w := by
  simp only [Bool.and_eq_true, Bool.not_eq_true'] at hah
  exact wpW_first (op_of_drop hi) (Region.noSelect_spec hs) (fun c a w => hQ c a w undef) hB hah.1 ops.size fuel listed a w (.inr (.inr ⟨hgd, rfl⟩)) (closed_of hah.2)
    (Region.free_spec (op_of_drop hi) hf) (by simpa using hr) (.inr ⟨hgd, rfl⟩) h

/-- an operation that asks nothing of the world -/
theorem wpW_free (i : Nat) {ws : List Nat} {oi : Oper} {tl : List Oper} {fuel : Nat} {listed : Array Bool} {a : Act} {w : World} (hB : Keeps S) (hi : ops.toList.drop i = oi :: tl)
    (hs : Region.noSelect ops = true) (hf : Region.free md ops listed i = true) (hr : (Region.ready md ops listed).contains i = true) (hah : (!(ws.contains i) && closedB md ops listed) = true) (hgd : Region.wanted oi (yielded ops a.tmps) = true)
    (hQ : ∀ c a w v, Q (.panic c) (a.put oi.dst v) w → Q (.panic c) a w) (v : Value) (hy : ∀ w, (execOp a.eval oi).run P w = .ok (.value v) w)
    (h : wpW P md ops Q S ws fuel (listed.setIfInBounds i true) (a.put oi.dst v) w) : wpW P md ops Q S ws (fuel + 1) listed a w := by
  simp only [Bool.and_eq_true, Bool.not_eq_true'] at hah
  exact wpW_first (op_of_drop hi) (Region.noSelect_spec hs) (fun c a w => hQ c a w v) hB hah.1 ops.size fuel listed a w (.inr (.inl ⟨hgd, fun w _ => by rw [hy w]; exact ⟨rfl, rfl⟩⟩)) (closed_of hah.2)
    (Region.free_spec (op_of_drop hi) hf) (by simpa using hr) (.inl ⟨hgd, fun w hw => by rw [hy w]; exact ⟨rfl, rfl⟩⟩) h

/-- a call that always hands back the same, in each world of the class -/
theorem wpW_call (i : Nat) {ws : List Nat} {oi : Oper} {tl : List Oper} {fuel : Nat} {listed : Array Bool} {a : Act} {w : World} (hB : Keeps S) (hi : ops.toList.drop i = oi :: tl)
    (hs : Region.noSelect ops = true) (hf : Region.free md ops listed i = true) (hr : (Region.ready md ops listed).contains i = true) (hah : aheadB md ops ws listed i = true) (hgd : Region.wanted oi (yielded ops a.tmps) = true)
    (hQ : ∀ c a w v, Q (.panic c) (a.put oi.dst v) w → Q (.panic c) a w) (f : FuncId) (args : Array Value) (hrun : ∀ w, (execOp a.eval oi).run P w = .ok (.enter f args) w) (v : Value)
    (hc : ∀ w, S w → Calls P f args w fun e w' => e = .returned v ∧ Below w.heap.size w w')
    (h : wpW P md ops Q S ws fuel (listed.setIfInBounds i true) (a.put oi.dst v) w) : wpW P md ops Q S ws (fuel + 1) listed a w := by
  simp only [aheadB, Bool.and_eq_true, Bool.not_eq_true'] at hah
  exact wpW_first (op_of_drop hi) (Region.noSelect_spec hs) (fun c a w => hQ c a w v) hB hah.1.1 ops.size fuel listed a w (.inl fun j hj => List.all_eq_true.1 hah.2 j (by simpa using hj)) (closed_of hah.1.2)
    (Region.free_spec (op_of_drop hi) hf) (by simpa using hr) (.inl ⟨hgd, fun w hw => by rw [hrun w]; exact ⟨rfl, hc w hw⟩⟩) h

theorem wpW_done {ws : List Nat} {fuel : Nat} {listed : Array Bool} {a : Act} {w : World} (hr : Region.ready md ops listed = []) (h : ∀ w1, Below w.heap.size w w1 → S w1 → Q .normal a w1) : wpW P md ops Q S ws fuel listed a w := by
  cases fuel with
  | zero => exact ⟨hr, h⟩
  | succ n => exact fun w1 b1 s1 => ⟨fun _ => h w1 b1 s1, by rw [hr]; simp⟩

/-- the one that may come up: it makes memory, or is a call whose result is open -/
theorem wpW_one (i : Nat) {ws : List Nat} {oi : Oper} {tl : List Oper} {fuel : Nat} {listed : Array Bool} {a : Act} {w : World} (hi : ops.toList.drop i = oi :: tl) (hr : Region.ready md ops listed = [i]) (hw : ws.contains i = false) (hgd : Region.wanted oi (yielded ops a.tmps) = true)
    (h : ∀ w1, Below w.heap.size w w1 → S w1 → oi.wp P a w1 (fun a' w' => S w' ∧ wpW P md ops Q S ws fuel (listed.setIfInBounds i true) a' w') Q) : wpW P md ops Q S ws (fuel + 1) listed a w :=
  fun w1 b1 s1 => ⟨fun h0 => (by rw [hr] at h0; cases h0), fun j hj => by
    obtain rfl : j = i := by rw [hr] at hj; simpa using hj
    exact wpOp_step (op_of_drop hi) (fun K' hK => by
      rw [if_pos hgd]
      refine Oper.wp_mono (fun a' w' h' => hK a' w' ?_) (h w1 b1 s1)
      rw [if_neg (by rw [hw]; simp)]
      exact h')⟩

/-- the one that may come up writes -/
theorem wpW_write (i : Nat) {ws : List Nat} {oi : Oper} {tl : List Oper} {fuel : Nat} {listed : Array Bool} {a : Act} {w : World} (hi : ops.toList.drop i = oi :: tl) (hr : Region.ready md ops listed = [i]) (hw : ws.contains i = true) (hgd : Region.wanted oi (yielded ops a.tmps) = true)
    (h : ∀ w1, Below w.heap.size w w1 → S w1 → oi.wp P a w1 (fun a' w' => wpU P md ops Q (fun _ => True) fuel (listed.setIfInBounds i true) a' w') Q) : wpW P md ops Q S ws (fuel + 1) listed a w :=
  fun w1 b1 s1 => ⟨fun h0 => (by rw [hr] at h0; cases h0), fun j hj => by
    obtain rfl : j = i := by rw [hr] at hj; simpa using hj
    exact wpOp_step (op_of_drop hi) (fun K' hK => by
      rw [if_pos hgd]
      refine Oper.wp_mono (fun a' w' h' => hK a' w' ?_) (h w1 b1 s1)
      rw [if_pos hw]
      exact h')⟩

/-- a store of one cell of a block that is known whole -/
theorem wpW_store_cell (i : Nat) {ws : List Nat} {oi : Oper} {tl : List Oper} {fuel : Nat} {listed : Array Bool} {a : Act} {w : World} (hi : ops.toList.drop i = oi :: tl) (hr : Region.ready md ops listed = [i]) (hw : ws.contains i = true) (hgd : Region.wanted oi (yielded ops a.tmps) = true)
    (ty : TypeId) (x y : Operand) (ho : oi.op = .store ty x y) {g : Nat} {T : TypeId} {old : Array Value} (hg : Box w g T old) (j : Nat) {k : IntKind} {n : Int} (hx : a.eval x = .pointer (some ⟨g, j, none⟩)) (hy : a.eval y = .int k n) (hj : j < old.size) (hz : ∀ w, (sizeOf ty).run P w = .ok 1 w)
    (h : ∀ w1 w', Below w.heap.size w w1 → S w1 → Box w' g T (old.setIfInBounds j (.int k n)) → But (fun k => k = g) w1 w' → wpU P md ops Q (fun _ => True) fuel (listed.setIfInBounds i true) (a.put oi.dst undef) w') : wpW P md ops Q S ws (fuel + 1) listed a w :=
  wpW_write i hi hr hw hgd (fun w1 b1 s1 =>
    have h1 := hg.after b1
    wp_store_cell ty x y ho hx hy (h1.cell j (Array.getElem?_eq_getElem hj)) (h1.frozen j) hz (h w1 _ b1 s1 (h1.set j _) ((But.refl (fun k => k = g) w1).setCell (p := ⟨g, j, none⟩) (.inl rfl) _)))

/-- a store of a whole array or struct -/
theorem wpW_store_box (i : Nat) {ws : List Nat} {oi : Oper} {tl : List Oper} {fuel : Nat} {listed : Array Bool} {a : Act} {w : World} (hi : ops.toList.drop i = oi :: tl) (hr : Region.ready md ops listed = [i]) (hw : ws.contains i = true) (hgd : Region.wanted oi (yielded ops a.tmps) = true)
    (ty : TypeId) (x y : Operand) (ho : oi.op = .store ty x y) {g : Nat} {T : TypeId} {old cells : Array Value} (hg : Box w g T old) (hx : a.eval x = .pointer (some ⟨g, 0, none⟩)) (hy : a.eval y = .agg cells) (hsz : old.size = cells.size)
    (hi' : (P.info? ty).map (·.size) = some cells.size) (h1 : cells.all (·.oneCell') = true)
    (h : ∀ w1 w', Below w.heap.size w w1 → S w1 → Box w' g T cells → Stored w1 w' g → wpU P md ops Q (fun _ => True) fuel (listed.setIfInBounds i true) (a.put oi.dst undef) w') : wpW P md ops Q S ws (fuel + 1) listed a w :=
  wpW_write i hi hr hw hgd (fun w1 b1 s1 => wp_store_box ty x y ho (hg.after b1) hx hy hsz hi' h1 (fun w' hb st => h w1 w' b1 s1 hb st))
end Go.Proofs.YthmigigclmogiaaDoor
namespace Go.Proofs.YthmigigclmogiaaDoor
open Go.RowKit
set_option linter.unusedSimpArgs false
set_option linter.unusedVariables false

/-- out has been written on -/
def PutP (v : Value) (B : Nat) (l : List UInt8) (w : World) (e : Ending) (w' : World) : Prop :=
  ∃ v', e = .returned v' ∧ OwnB w' B v' l ∧ But (fun k => v.ownBlock = some k) w w' ∧ (∀ k, v'.ownBlock = some k → v.ownBlock = some k ∨ w.heap.size ≤ k)

/-- what is added to the sum of bytes -/
theorem textL_length (l : List UInt8) : (textL l).length = (numL l.length).length + 1 + l.length := by simp [textL]; omega

set_option maxHeartbeats 1000000 in
set_option maxRecDepth 100000 in
theorem cbytes_any (g N S : Nat) (a : Option Addr) (n c : Nat) (lb : List UInt8) (w : World) (hg : Box w g 59 #[.int .i64 N, .int .i64 S]) (hn : n ≤ 35184372088832) (hS : S ≤ 35184372088832) (hln : n = lb.length) (ht : Tab w) :
    Calls Tryd.prog 44 #[.pointer (some ⟨g, 0, none⟩), .slice a n c] w fun e w' => e = .returned (.tuple #[]) ∧ Box w' g 59 #[.int .i64 N, .int .i64 (S + (textL lb).length : Nat)] ∧ But (fun k => k = g) w w' := by
  have HG := Lib.hid hg
  have HT := Lib.hid ht
  have hk := numL_len (n : Int) (by omega)
  obtain ⟨d, hd⟩ : ∃ d, d = numL n := ⟨_, rfl⟩
  rw [← hd] at hk
  have HE : Hid (((S + (textL lb).length : Nat) : Int) = (S : Int) + ((d.length : Int) + 1 + (n : Int))) := Lib.hid (by rw [textL_length, ← hln, ← hd]; omega)
  have HD := Lib.hid hd
  have HPL := Lib.hid (fun w1 h => putLen_any n (by omega) (by omega) w1 h)
  rw [← hd] at HPL
  have c1 := hg.cell 1 rfl
  clear hg ht hd hln
  have e1 : IntKind.i64.wrap ((d.length : Int) + 1) = (d.length : Int) + 1 := IntWalk.i64_in _ ⟨by omega, by omega⟩
  have e2 : IntKind.i64.wrap ((d.length : Int) + 1 + (n : Int)) = (d.length : Int) + 1 + (n : Int) := IntWalk.i64_in _ ⟨by omega, by omega⟩
  have e3 : IntKind.i64.wrap ((S : Int) + ((d.length : Int) + 1 + (n : Int))) = (S : Int) + ((d.length : Int) + 1 + (n : Int)) := IntWalk.i64_in _ ⟨by omega, by omega⟩
  have E1 := Lib.hid e1
  have E2 := Lib.hid e2
  have E3 := Lib.hid e3
  clear e1 e2 e3
  go_enter Tryd.func44, Tryd.ntmps44
  go_upto_region 0 with fail
  have hKS : Keeps (fun w' => Box w' g 59 #[.int .i64 N, .int .i64 S] ∧ Tab w') := fun w w' h b => ⟨h.1.after b, h.2.after b⟩
  refine wp_region_W (w := w) [15] (fun w' => Box w' g 59 #[.int .i64 N, .int .i64 S] ∧ Tab w') rfl ⟨HG.out.drew, HT.out.after ((Below.refl _ _).drew)⟩ ?_
  refine wpW_val 0 hKS rfl (by kernel_rfl) (by kernel_rfl) (by kernel_rfl) (by kernel_rfl) rfl (fun _ _ _ _ h => h) (.pointer (some ⟨g, 0, none⟩)) (fun w' h => by simp [go_sem]) ?_
  simp only [Act.put, List.setIfInBounds_toArray, List.set_cons_zero, List.set_cons_succ]
  refine wpW_val 1 hKS rfl (by kernel_rfl) (by kernel_rfl) (by kernel_rfl) (by kernel_rfl) rfl (fun _ _ _ _ h => h) (.pointer (some ⟨g, 0, none⟩)) (fun w' h => by simp [go_sem]) ?_
  simp only [Act.put, List.setIfInBounds_toArray, List.set_cons_zero, List.set_cons_succ]
  refine wpW_val 2 hKS rfl (by kernel_rfl) (by kernel_rfl) (by kernel_rfl) (by kernel_rfl) rfl (fun _ _ _ _ h => h) (.pointer (some ⟨g, 1, none⟩)) (fun w' h => by simp [go_sem]) ?_
  simp only [Act.put, List.setIfInBounds_toArray, List.set_cons_zero, List.set_cons_succ]
  refine wpW_val 3 hKS rfl (by kernel_rfl) (by kernel_rfl) (by kernel_rfl) (by kernel_rfl) rfl (fun _ _ _ _ h => h) (.int .i64 S) (fun w' h => by simp [go_sem, h.1.cell 1 rfl]) ?_
  simp only [Act.put, List.setIfInBounds_toArray, List.set_cons_zero, List.set_cons_succ]
  refine wpW_val 4 hKS rfl (by kernel_rfl) (by kernel_rfl) (by kernel_rfl) (by kernel_rfl) rfl (fun _ _ _ _ h => h) (.slice a n c) (fun w' h => by simp [go_sem]) ?_
  simp only [Act.put, List.setIfInBounds_toArray, List.set_cons_zero, List.set_cons_succ]
  refine wpW_val 5 hKS rfl (by kernel_rfl) (by kernel_rfl) (by kernel_rfl) (by kernel_rfl) rfl (fun _ _ _ _ h => h) (.int .i64 n) (fun w' h => by simp [go_sem]) ?_
  simp only [Act.put, List.setIfInBounds_toArray, List.set_cons_zero, List.set_cons_succ]
  refine wpW_call 6 hKS rfl (by kernel_rfl) (by kernel_rfl) (by kernel_rfl) (by kernel_rfl) rfl (fun _ _ _ _ h => h) 29 #[.int .i64 n] (fun w => by simp [go_sem]) (.string ⟨d.toArray⟩) (fun w' h => HPL.out w' h.2) ?_
  simp only [Act.put, List.setIfInBounds_toArray, List.set_cons_zero, List.set_cons_succ]
  refine wpW_val 7 hKS rfl (by kernel_rfl) (by kernel_rfl) (by kernel_rfl) (by kernel_rfl) rfl (fun _ _ _ _ h => h) (.int .i64 d.length) (fun w' h => by simp [go_sem]; first | done | rfl) ?_
  simp only [Act.put, List.setIfInBounds_toArray, List.set_cons_zero, List.set_cons_succ]
  refine wpW_val 8 hKS rfl (by kernel_rfl) (by kernel_rfl) (by kernel_rfl) (by kernel_rfl) rfl (fun _ _ _ _ h => h) (.int .i64 ((d.length : Int) + 1)) (fun w' h => by simp [go_sem, E1.out]) ?_
  simp only [Act.put, List.setIfInBounds_toArray, List.set_cons_zero, List.set_cons_succ]
  refine wpW_val 9 hKS rfl (by kernel_rfl) (by kernel_rfl) (by kernel_rfl) (by kernel_rfl) rfl (fun _ _ _ _ h => h) (.slice a n c) (fun w' h => by simp [go_sem]) ?_
  simp only [Act.put, List.setIfInBounds_toArray, List.set_cons_zero, List.set_cons_succ]
  refine wpW_val 10 hKS rfl (by kernel_rfl) (by kernel_rfl) (by kernel_rfl) (by kernel_rfl) rfl (fun _ _ _ _ h => h) (.int .i64 n) (fun w' h => by simp [go_sem]) ?_
  simp only [Act.put, List.setIfInBounds_toArray, List.set_cons_zero, List.set_cons_succ]
  refine wpW_val 11 hKS rfl (by kernel_rfl) (by kernel_rfl) (by kernel_rfl) (by kernel_rfl) rfl (fun _ _ _ _ h => h) (.int .i64 ((d.length : Int) + 1 + (n : Int))) (fun w' h => by simp [go_sem, E2.out]) ?_
  simp only [Act.put, List.setIfInBounds_toArray, List.set_cons_zero, List.set_cons_succ]
  refine wpW_val 12 hKS rfl (by kernel_rfl) (by kernel_rfl) (by kernel_rfl) (by kernel_rfl) rfl (fun _ _ _ _ h => h) (.int .i64 ((S : Int) + ((d.length : Int) + 1 + (n : Int)))) (fun w' h => by simp [go_sem, E3.out]) ?_
  simp only [Act.put, List.setIfInBounds_toArray, List.set_cons_zero, List.set_cons_succ]
  refine wpW_val 13 hKS rfl (by kernel_rfl) (by kernel_rfl) (by kernel_rfl) (by kernel_rfl) rfl (fun _ _ _ _ h => h) (.pointer (some ⟨g, 0, none⟩)) (fun w' h => by simp [go_sem]) ?_
  simp only [Act.put, List.setIfInBounds_toArray, List.set_cons_zero, List.set_cons_succ]
  refine wpW_val 14 hKS rfl (by kernel_rfl) (by kernel_rfl) (by kernel_rfl) (by kernel_rfl) rfl (fun _ _ _ _ h => h) (.pointer (some ⟨g, 1, none⟩)) (fun w' h => by simp [go_sem]) ?_
  simp only [Act.put, List.setIfInBounds_toArray, List.set_cons_zero, List.set_cons_succ]
  refine wpW_store_cell 15 rfl (by kernel_rfl) rfl rfl 3 _ _ rfl HG.out.drew 1 rfl rfl (show 1 < 2 by decide) (fun w => by simp [go_sem]) ?_
  intro w1 w2 b1 s1 hbx st
  refine wpU_done (by kernel_rfl) ?_
  intro w3 b3 _
  simp only [Act.put]
  have HB := (((But.refl (fun k => k = g) w).drew.trans (But.ofBelow (S := fun k => k = g) b1) (fun k hk => .inl hk)).trans st (fun k hk => .inl hk)).trans (But.ofBelow (S := fun k => k = g) b3) (fun k hk => .inl hk)
  have hb3 := hbx.after b3
  rw [← HE.out] at hb3
  clear hKS b1 b3 st s1 hbx
  go_end0
  exact ⟨rfl, hb3, HB⟩

end Go.Proofs.YthmigigclmogiaaDoor

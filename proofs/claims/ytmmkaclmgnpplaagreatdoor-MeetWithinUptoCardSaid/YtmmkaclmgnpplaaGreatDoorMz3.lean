import Derived.Test.YtmmkaclmgnpplaaGreatDoorMz1
import Derived.Deep.Upon
import Derived.Test.YtmmkaclmgnpplaaGreatDoorShelf
import Derived.Lib.AppendIntMem
import Derived.Lib.LaidTab
import Derived.Lib.ItoaNum
set_option maxRecDepth 100000
set_option maxHeartbeats 64000000
set_option linter.unusedSimpArgs false
set_option linter.unusedVariables false
namespace Go.Proofs.YtmmkaclmgnpplaaGreatDoor
open Go.RowKit
section
def OwnG (w : World) (B size : Nat) (v : Value) (n : Nat) (xs : List Value) : Prop :=
 xs.length = n * size ∧ ((v = .slice none 0 0 ∧ n = 0) ∨
  ∃ g o cap, v = .slice (some ⟨g, o, none⟩) n cap ∧ B ≤ g ∧ g < w.heap.size ∧ n ≤ cap ∧ cap ≤ maxLen ∧ w.there g o (cap * size) ∧ w.rangeAt g o xs)
variable {P : Program} {w w' : World} {B size : Nat} {v : Value} {n : Nat} {xs : List Value}
theorem OwnG.nil (w : World) (B size : Nat) : OwnG w B size (.slice none 0 0) 0 [] := ⟨by simp, .inl ⟨rfl, rfl⟩⟩
theorem OwnG.le {B' : Nat} (h : OwnG w B size v n xs) (hB : B' ≤ B) : OwnG w B' size v n xs := by
 refine ⟨h.1, ?_⟩
 rcases h.2 with h2 | ⟨g, o, cap, h2, h3, h4⟩
 ·exact .inl h2
 ·exact .inr ⟨g, o, cap, h2, Nat.le_trans hB h3, h4⟩
theorem OwnG.lt (h : OwnG w B size v n xs) : ∀ k, v.ownBlock = some k → B ≤ k ∧ k < w.heap.size := by
 intro k hk
 rcases h.2 with ⟨rfl, _⟩ | ⟨g, o, cap, rfl, h3, h4, _⟩
 ·simp [Value.ownBlock] at hk
 ·simp [Value.ownBlock] at hk
  subst hk
  exact ⟨h3, h4⟩
theorem OwnG.keep (h : OwnG w B size v n xs) (hz : w.heap.size ≤ w'.heap.size) (hk : ∀ g, v.ownBlock = some g → w'.heap[g]? = w.heap[g]?) : OwnG w' B size v n xs := by
 refine ⟨h.1, ?_⟩
 rcases h.2 with h2 | ⟨g, o, cap, rfl, h3, h4, h5, h6, h7, h8⟩
 ·exact .inl h2
 ·have hb := hk g rfl
  refine .inr ⟨g, o, cap, rfl, h3, Nat.lt_of_lt_of_le h4 hz, h5, h6, fun j hj => ?_, fun j u hu => ?_⟩
  ·rw [World.cell?_of_block (a := ⟨g, o + j, none⟩) hb, World.frozen?_of_block (a := ⟨g, o + j, none⟩) hb]; exact h7 j hj
  ·rw [World.cell?_of_block (a := ⟨g, o + j, none⟩) hb]; exact h8 j u hu
theorem OwnG.after (h : OwnG w B size v n xs) (hb : Below w.heap.size w w') : OwnG w' B size v n xs :=
 h.keep hb.size fun g hg => hb.block g (h.lt g hg).2
theorem OwnG.drew (h : OwnG w B size v n xs) : OwnG w.drew B size v n xs := h.keep (Nat.le_refl _) fun _ _ => rfl
theorem OwnG.alloc (h : OwnG w B size v n xs) (o : Obj) : OwnG (w.alloc o) B size v n xs := h.after ((Below.refl _ _).alloc (Nat.le_refl _) _)
theorem OwnG.made (h1 : xs.length = n * size) {g o cap : Nat} (h3 : B ≤ g) (h4 : g < w.heap.size) (h5 : n ≤ cap) (h6 : cap ≤ maxLen) (h7 : w.there g o (cap * size)) (h8 : w.rangeAt g o xs) : OwnG w B size (.slice (some ⟨g, o, none⟩) n cap) n xs :=
 ⟨h1, .inr ⟨g, o, cap, rfl, h3, h4, h5, h6, h7, h8⟩⟩
theorem OwnG.new (w : World) (B size : Nat) (hB : B ≤ w.heap.size) (cur : Array Value) (e : TypeId) (n cap : Nat) (hn : n ≤ cap) (hc : cap ≤ maxLen) (hs : cur.size = cap * size) :
  OwnG (w.alloc (.cells cur e)) B size (.slice (some ⟨w.heap.size, 0, none⟩) n cap) n (cur.toList.take (n * size)) := by
 have hb : (w.alloc (.cells cur e)).heap[w.heap.size]? = some (.cells cur e (0, 0)) := heap_alloc_new _ _
 have td := Nat.mul_le_mul_right size hn
 refine .made (by simp; omega) hB (by simp) hn hc (fun j hj => ?_) (fun j u hu => ?_)
 ·rw [Nat.zero_add]
  exact ⟨by rw [cell_of_row _ _ j cur e _ hb]; simp; omega, frozen_of_row _ _ j cur e hb⟩
 ·rw [Nat.zero_add, cell_of_row _ _ j cur e _ hb]
  rw [List.getElem?_take] at hu
  split at hu
  ·simpa using hu
  ·cases hu
theorem iZ (g : Nat) : ∀ (vs : List Value) (o : Nat) (w : World), (w.setCells g o vs).tape = w.tape
 | [], _, _ => rfl
 | v :: vs, o, w => by
  rw [show w.setCells g o (v :: vs) = (w.setCell ⟨g, o, none⟩ v).setCells g (o + 1) vs from rfl, iZ g vs (o + 1)]
  rfl
theorem ew (g : Nat) : ∀ (vs : List Value) (o : Nat) (w : World), (w.setCells g o vs).heap.size = w.heap.size
 | [], _, _ => rfl
 | v :: vs, o, w => by
  rw [show w.setCells g o (v :: vs) = (w.setCell ⟨g, o, none⟩ v).setCells g (o + 1) vs from rfl, ew g vs (o + 1)]
  simp
theorem gm (w : World) (g o : Nat) (vs : List Value) : w.grownBy (w.setCells g o vs) (some g) :=
 ⟨World.os_setCells w g o vs, iZ g vs o w, World.output_setCells w g o vs, Nat.le_of_eq (ew g vs o w).symm, fun k hk gj => World.heap_setCells_other w g o vs hk (fun e => gj (by rw [e]))⟩
theorem OwnG.append (t tx ty e : TypeId) (i : TypeInfo) (z : Value) (bytes : Nat) (ht : P.underlying t = some (.slice e)) (hi : P.info? e = some i) (hz : i.zero = some z) (mj : i.size = size) (AP : i.bytes = bytes) (DP : z.cells.size = size) (mM : 0 < size)
  (h : OwnG w B size v n xs) (x : Value) (m : Nat) (news : List Value) (hs : Src P size tx x m news w) (h63 : n + m ≤ maxLen) (fc : (n + m) * bytes ≤ 140737488355328) (hB : B ≤ w.heap.size) :
  ∃ v' w', (Builtin.append_ #[t, tx] ty #[v, x]).run P w = .ok v' w' ∧ OwnG w' B size v' (n + m) (xs ++ news) ∧ w.grownBy w' v.ownBlock ∧ ∀ k, v'.ownBlock = some k → v.ownBlock = some k ∨ w.heap.size ≤ k := by
 subst mj
 subst AP
 have dh : (xs ++ news).length = (n + m) * i.size := by rw [List.length_append, h.1, hs.newsLen, Nat.add_mul]
 have wA : ((n + m : Nat) : Int) ≤ 9223372036854775807 := by simp only [maxLen] at h63; omega
 have grown : ∀ old, ∀ (row : Option Nat),
   OwnG (w.drew.alloc (.cells ((xs ++ news).toArray ++ Builtin.zeroCells z.cells (grownCap w (n + m) old e - (n + m))) e)) B i.size (.slice (some ⟨w.heap.size, 0, none⟩) (n + m) (grownCap w (n + m) old e)) (n + m) (xs ++ news) ∧
   w.grownBy (w.drew.alloc (.cells ((xs ++ news).toArray ++ Builtin.zeroCells z.cells (grownCap w (n + m) old e - (n + m))) e)) row := by
  intro old row
  have Ev := grownCap_ge w (n + m) old e
  have ea : grownCap w (n + m) old e ≤ maxLen := grownCap_le_maxLen w (n + m) old e h63
  refine ⟨?_, ⟨rfl, rfl, rfl, by simp, fun k hk _ => heap_alloc_old w.drew _ hk⟩⟩
  have := OwnG.new w.drew B i.size hB ((xs ++ news).toArray ++ Builtin.zeroCells z.cells (grownCap w (n + m) old e - (n + m))) e (n + m) (grownCap w (n + m) old e) Ev ea (by
   simp only [Array.size_append, List.size_toArray, size_zeroCells, DP, dh, ← Nat.add_mul]
   congr 1
   omega)
  rw [show ((xs ++ news).toArray ++ Builtin.zeroCells z.cells (grownCap w (n + m) old e - (n + m))).toList.take ((n + m) * i.size) = xs ++ news by
   rw [Array.toList_append, ← dh]
   exact List.take_left] at this
  exact this
 rcases h.2 with ⟨rfl, rfl⟩ | ⟨g, o, cap, rfl, h3, h4, h5, h6, h7, h8⟩
 ·have hx : xs = [] := List.eq_nil_of_length_eq_zero (by simpa using h.1)
  subst hx
  by_cases hm : m = 0
  ·subst hm
   have hn : news = [] := List.eq_nil_of_length_eq_zero (by simpa using hs.newsLen)
   subst hn
   exact ⟨_, _, run_append_nothing w t tx ty e i ht hi none 0 0 (Nat.le_refl _) x hs, OwnG.nil w B i.size, World.grownBy.refl w _, fun k hk => .inl hk⟩
  ·have hr := run_append_grow_src w t tx ty e i z ht hi hz none 0 0 [] (run_firstCells_none w.drew i.size 0 0 0) x m news hs (by omega) wA (growslice_fits (by omega) fc)
   have hg := grown 0 (Value.ownBlock (.slice none 0 0))
   exact ⟨_, _, hr, hg.1, hg.2, fun k hk => .inr (by simp [Value.ownBlock] at hk; omega)⟩
 ·by_cases wD : n + m ≤ cap
  ·have td : n * i.size + news.length ≤ cap * i.size := by rw [hs.newsLen, ← Nat.add_mul]; exact Nat.mul_le_mul_right _ wD
   have hr := run_append_room_src w t tx ty e i ht hi g o n cap x m news hs wD (fun j hj => by have := (h7 (n * i.size + j) (by omega)).1; rwa [← Nat.add_assoc] at this) (fun j hj => by have := (h7 (n * i.size + j) (by omega)).2; rwa [← Nat.add_assoc] at this)
   refine ⟨_, _, hr, .made dh h3 (by rw [ew]; exact h4) wD h6 (World.there_setCells h7 _ _ _) (fun j u hu => ?_), gm _ _ _ _, fun k hk => .inl hk⟩
   rw [List.getElem?_append] at hu
   split at hu
   ·rename_i aJ
    exact World.rangeAt_setCells_apart h8 g (o + n * i.size) news (.inr (.inl (by rw [h.1]; exact Nat.le_refl _))) j u hu
   ·rename_i Ev
    have Aw : w.there g (o + n * i.size) news.length := fun j hj => by have := h7 (n * i.size + j) (by omega); rwa [← Nat.add_assoc] at this
    have := World.rangeAt_setCells_same w g (o + n * i.size) news Aw (j - xs.length) u hu
    rw [h.1] at this Ev
    rwa [show o + n * i.size + (j - n * i.size) = o + j by omega] at this
  ·have hr := run_append_grow_src w t tx ty e i z ht hi hz (some ⟨g, o, none⟩) n cap xs (run_firstCells_some w.drew i.size n ⟨g, o, none⟩ n cap xs h.1 (fun j u hu => by rw [Addr.add_mid]; simpa using h8 j u hu)) x m news hs (by omega) wA (growslice_fits (by omega) fc)
   have hg := grown cap (Value.ownBlock (.slice (some ⟨g, o, none⟩) n cap))
   exact ⟨_, _, hr, hg.1, hg.2, fun k hk => .inr (by simp [Value.ownBlock] at hk; omega)⟩
theorem gW {o : Oper} {a : Act} {K : Act → World → Prop} {Q : Exit → Act → World → Prop} (s x : Operand) (t tx : TypeId)
  (ho : o.op = .call { callee := .builtin .append, args := #[s, x], argTypes := #[t, tx] }) (e : TypeId) (i : TypeInfo) (z : Value) (bytes : Nat) (ht : P.underlying t = some (.slice e)) (hi : P.info? e = some i) (hz : i.zero = some z) (mj : i.size = size) (AP : i.bytes = bytes) (DP : z.cells.size = size) (mM : 0 < size)
  (hs : a.eval s = v) (h : OwnG w B size v n xs) (xv : Value) (hx : a.eval x = xv) (m : Nat) (news : List Value) (lk : Src P size tx xv m news w) (h63 : n + m ≤ maxLen) (fc : (n + m) * bytes ≤ 140737488355328) (hB : B ≤ w.heap.size)
  (hk : ∀ v' w', OwnG w' B size v' (n + m) (xs ++ news) → w.grownBy w' v.ownBlock → (∀ k, v'.ownBlock = some k → v.ownBlock = some k ∨ w.heap.size ≤ k) → K (a.put o.dst v') w') : o.wp P a w K Q := by
 obtain ⟨v', w', hr, h2, h3, h4⟩ := OwnG.append t tx o.type e i z bytes ht hi hz mj AP DP mM h xv m news lk h63 fc hB
 unfold Oper.wp execOp
 simp only [ho, resolve, invoke, builtin, Sem.run_bind, Sem.run_pure, Result.andThen_ok, List.map_toArray, List.map_cons, List.map_nil, hs, hx, hr]
 exact hk v' w' h2 h3 h4
def OwnB (w : World) (B : Nat) (v : Value) (l : List UInt8) : Prop := OwnG w B 1 v l.length (Lib.byteCells l)
theorem OwnB.nil (w : World) (B : Nat) : OwnB w B (.slice none 0 0) [] := OwnG.nil w B 1
theorem OwnB.sl {l : List UInt8} (h : OwnB w B v l) : ∃ a c, v = .slice a l.length c ∧ Sl w a l.length c l := by
 rcases h.2 with ⟨rfl, hl⟩ | ⟨g, o, cap, rfl, h3, h4, h5, h6, h7, h8⟩
 ·have : l = [] := List.eq_nil_of_length_eq_zero hl
  subst this
  exact ⟨none, 0, rfl, rfl, Nat.le_refl _, Nat.zero_le _, fun _ => rfl, .inl rfl⟩
 ·refine ⟨_, _, rfl, rfl, h5, h6, (fun h => by cases h), .inr ⟨g, o, rfl, fun i hi => h8 i _ ?_⟩⟩
  simp [Lib.byteCells, List.getD_eq_getElem?_getD, hi]
theorem OwnB.own {l : List UInt8} (h : OwnB w B v l) : ∀ k, v.ownBlock = some k → B ≤ k ∧ k < w.heap.size := OwnG.lt h
theorem OwnB.after {l : List UInt8} (h : OwnB w B v l) (hb : Below w.heap.size w w') : OwnB w' B v l := OwnG.after h hb
theorem OwnB.le {B' : Nat} {l : List UInt8} (h : OwnB w B v l) (hB : B' ≤ B) : OwnB w B' v l := OwnG.le h hB
theorem Sl.src {a : Option Addr} {m c : Nat} {l : List UInt8} (h : Sl w a m c l) {t e : TypeId} (ht : P.underlying t = some (.slice e)) : Src P 1 t (.slice a m c) m (Lib.byteCells l) w := by
 obtain ⟨h1, h2, h3, h5, h4⟩ := h
 cases a with
 | none =>
  have hc := h5 rfl
  subst hc
  obtain rfl : m = 0 := by omega
  have jx : l = [] := List.eq_nil_of_length_eq_zero h1.symm
  subst jx
  exact Src.ofNil w ht 0
 | some ad =>
  refine Src.ofSlice w ht ad m c _ (by simp [Lib.byteCells, h1]) (fun j u hj => ?_) (fun u hu => ?_)
  ·rcases h4 with h4 | ⟨b, o', e', h4⟩
   ·have jx : l = [] := List.eq_nil_of_length_eq_zero (by omega)
    subst jx
    simp [Lib.byteCells] at hj
   ·obtain rfl := Option.some.inj e'
    have aJ : j < l.length := by
     rcases Nat.lt_or_ge j l.length with h' | h'
     ·exact h'
     ·simp [Lib.byteCells, List.getElem?_eq_none h'] at hj
    simp [Lib.byteCells, aJ] at hj
    rw [Addr.add_lit, h4 j (by omega), ← hj]
    simp [List.getD_eq_getElem?_getD, aJ]
  ·obtain ⟨_, _, rfl⟩ := List.mem_map.1 hu
   rfl
theorem ym : (Tryz.prog.info? 5).map (fun i => (i.zero, i.size, i.bytes)) = some (some (.int .u8 0), 1, 1) := by kernel_rfl
theorem n7 {o : Oper} {a : Act} {K : Act → World → Prop} {Q : Exit → Act → World → Prop} (s x : Operand)
  (ho : o.op = .call { callee := .builtin .append, args := #[s, x], argTypes := #[22, 22] })
  {l : List UInt8} (hs : a.eval s = v) (h : OwnB w B v l) {ax : Option Addr} {m c : Nat} {l2 : List UInt8} (hx : a.eval x = .slice ax m c) (hsl : Sl w ax m c l2) (fc : l.length + m ≤ 140737488355328) (hB : B ≤ w.heap.size)
  (hk : ∀ v' w', OwnB w' B v' (l ++ l2) → w.grownBy w' v.ownBlock → (∀ k, v'.ownBlock = some k → v.ownBlock = some k ∨ w.heap.size ≤ k) → K (a.put o.dst v') w') : o.wp Tryz.prog a w K Q := by
 obtain ⟨i0, hi, o5⟩ := Option.map_eq_some_iff.1 ym
 simp only [Prod.mk.injEq] at o5
 obtain ⟨mg, uj, m3⟩ := o5
 refine gW s x 22 22 ho 5 i0 (.int .u8 0) 1 Tryz.underlying22 hi mg uj m3 rfl (by decide) hs h _ hx m _ (hsl.src Tryz.underlying22) (by unfold maxLen; omega) (by omega) hB (fun v' w' h1 h2 h3 => hk v' w' ?_ h2 h3)
 rw [gv, hsl.1] at h1
 unfold OwnB
 rw [List.length_append]
 exact h1
theorem pj {o : Oper} {a : Act} {K : Act → World → Prop} {Q : Exit → Act → World → Prop} (s x : Operand)
  (ho : o.op = .call { callee := .builtin .append, args := #[s, x], argTypes := #[22, 22] })
  {l : List UInt8} (hs : a.eval s = v) (h : OwnB w B v l) {ax : Option Addr} {m c : Nat} {l2 : List UInt8} (hx : a.eval x = .slice ax m c) (hsl : Sl w ax m c l2) (fc : l.length + m ≤ 140737488355328) (hB : B ≤ w.heap.size)
  (hk : ∀ v' w', OwnB w' B v' (l ++ l2) → w.grownBy w' v.ownBlock → K (a.put o.dst v') w') : o.wp Tryz.prog a w K Q :=
 n7 s x ho hs h hx hsl fc hB fun v' w' h1 h2 _ => hk v' w' h1 h2
theorem aV {ops : Array Oper} {rest : List Oper} {o : Oper} {a : Act} {Q : Exit → Act → World → Prop} (dR : o.guard = none) (s x : Operand)
  (ho : o.op = .call { callee := .builtin .append, args := #[s, x], argTypes := #[22, 22] })
  {l : List UInt8} (hs : a.eval s = v) (h : OwnB w B v l) {ax : Option Addr} {m c : Nat} {l2 : List UInt8} (hx : a.eval x = .slice ax m c) (hsl : Sl w ax m c l2) (fc : l.length + m ≤ 140737488355328) (hB : B ≤ w.heap.size)
  (hk : ∀ v' w', OwnB w' B v' (l ++ l2) → w.grownBy w' v.ownBlock → wpList Tryz.prog ops Q rest (a.put o.dst v') w') : wpList Tryz.prog ops Q (o :: rest) a w :=
 wpList_plain dR fun _ hK => pj s x ho hs h hx hsl fc hB fun v' w' h1 h2 => hK _ _ (hk v' w' h1 h2)
structure But (S : Nat → Prop) (w w' : World) : Prop where
 os : w'.os = w.os
 tape : w'.tape = w.tape
 output : w'.output = w.output
 size : w.heap.size ≤ w'.heap.size
 block : ∀ k, k < w.heap.size → ¬ S k → w'.heap[k]? = w.heap[k]?
section
variable {S T : Nat → Prop} {w1 w2 w3 : World}
theorem But.refl (S : Nat → Prop) (w : World) : But S w w := ⟨rfl, rfl, rfl, Nat.le_refl _, fun _ _ _ => rfl⟩
theorem But.trans (h : But S w1 w2) (h' : But T w2 w3) (hT : ∀ k, T k → S k ∨ w1.heap.size ≤ k) : But S w1 w3 :=
 ⟨h'.os.trans h.os, h'.tape.trans h.tape, h'.output.trans h.output, Nat.le_trans h.size h'.size, fun k hk hS =>
  (h'.block k (Nat.lt_of_lt_of_le hk h.size) (fun hT' => (hT k hT').elim hS (fun e => by omega))).trans (h.block k hk hS)⟩
theorem But.mono (h : But S w1 w2) (hT : ∀ k, S k → T k) : But T w1 w2 := ⟨h.os, h.tape, h.output, h.size, fun k hk hS => h.block k hk fun e => hS (hT k e)⟩
theorem But.drew (h : But S w1 w2) : But S w1 w2.drew := ⟨h.os, h.tape, h.output, h.size, h.block⟩
theorem But.alloc (h : But S w1 w2) (o : Obj) : But S w1 (w2.alloc o) :=
 ⟨h.os, h.tape, h.output, by have := h.size; simp; omega, fun k hk hS => (Below.heap_alloc w2 o k (Nat.lt_of_lt_of_le hk h.size)).trans (h.block k hk hS)⟩
theorem But.setCell (h : But S w1 w2) {p : Addr} (hp : S p.block ∨ w1.heap.size ≤ p.block) (u : Value) : But S w1 (w2.setCell p u) :=
 ⟨h.os, h.tape, h.output, by have := h.size; simpa using this, fun k hk hS =>
  (Below.heap_setCell w2 p u k (fun e => hp.elim (fun e' => hS (e ▸ e')) (fun e' => by omega))).trans (h.block k hk hS)⟩
theorem But.ofBelow (h : Below w1.heap.size w1 w2) : But S w1 w2 := ⟨h.os, h.tape, h.output, h.size, fun k hk _ => h.block k hk⟩
theorem But.ofGrown {row : Option Nat} (h : w1.grownBy w2 row) (hS : ∀ k, row = some k → S k) : But S w1 w2 := ⟨h.os, h.tape, h.output, h.size, fun k hk hn => h.block k hk fun e => hn (hS k e.symm)⟩
theorem But.below (h : But S w1 w2) {B : Nat} (hB : B ≤ w1.heap.size) (hS : ∀ k, S k → B ≤ k) : Below B w1 w2 :=
 ⟨h.os, h.tape, h.output, h.size, fun k hk => h.block k (by omega) fun e => by have := hS k e; omega⟩
theorem But.ofStored {g : Nat} (h : Stored w1 w2 g) (hb : Below 0 w1 w2) : But (fun k => k = g) w1 w2 := ⟨hb.os, hb.tape, hb.output, hb.size, fun k _ hk => h.other k hk⟩
theorem But.after {B : Nat} {w0 : World} (h0 : Below B w0 w1) (h : But S w1 w2) (hB : B ≤ w1.heap.size) (hS : ∀ k, S k → B ≤ k) : Below B w0 w2 :=
 h0.trans (h.below hB hS)
theorem But.box {g : Nat} {T : TypeId} {cs : Array Value} (h : But S w1 w2) (hb : Box w1 g T cs) (hg : ¬ S g) : Box w2 g T cs := (h.block g hb.lt hg).trans hb
theorem OwnG.but {B size n : Nat} {v : Value} {xs : List Value} (h : OwnG w1 B size v n xs) (hb : But S w1 w2) (hg : ∀ k, v.ownBlock = some k → ¬ S k) : OwnG w2 B size v n xs :=
 h.keep hb.size fun g hv => hb.block g (h.lt g hv).2 (hg g hv)
theorem Sl.but {a : Option Addr} {n c : Nat} {l : List UInt8} (h : Sl w1 a n c l) (hb : But S w1 w2) {ok : Nat → Prop} (hi : InB ok a n) (ml : ∀ k, ok k → ¬ S k) : Sl w2 a n c l := by
 rcases hi with hi | hi
 ·exact h.keep (.inl hi)
 ·rcases h.inB with h0 | h0
  ·exact h.keep (.inl h0)
  ·exact h.keep (.inr fun b o s e => hb.block b (h0 b o s e) (ml b (hi b o s e)))
theorem RowAt.but {a : Option Addr} {n c : Nat} {K : Nat → SV} (h : RowAt w1 a n c K) (hb : But S w1 w2) {ok : Nat → Prop} (hi : InB ok a n) (ml : ∀ k, ok k → ¬ S k) : RowAt w2 a n c K := by
 rcases hi with hi | hi
 ·exact h.keep (.inl hi)
 ·rcases h.lt with h0 | h0
  ·exact h.keep (.inl h0)
  ·exact h.keep (.inr fun b o s e => hb.block b (h0 b o s e) (ml b (hi b o s e)))
theorem RdI.but {ok : Nat → Prop} {v : SV} {s : Sx} (h : RdI ok w1 v s) (hb : But S w1 w2) (ml : ∀ k, ok k → ¬ S k) : RdI ok w2 v s :=
 (h.there.keep fun b hb' => hb.block b hb'.2 (ml b hb'.1)).mono fun _ h => h.1
end
theorem ip (w : World) (s : ByteArray) (hs : s.size ≤ 140737488355328) : ∃ v w', (convert 9 22 (.string s)).run Tryz.prog w = .ok v w' ∧ OwnB w' w.heap.size v s.data.toList ∧ Below w.heap.size w w' := by
 obtain ⟨c, w', hr, hb, hn, hm, hB⟩ := xb w s hs
 refine ⟨_, w', hr, ?_, hB⟩
 have hr' := hr
 rw [Lib.run_convert_string_bytes w 9 22 5 s Tryz.underlying9 Tryz.underlying22 Tryz.underlying5] at hr'
 injection hr' with h1 h2
 injection h1 with _ _ hc
 have AC := Lib.bytesWorld_at_new w 5 s
 rw [h2] at AC
 have mM : (Lib.bytesCells w 5 s).size = c := by
  rw [← hc]
  have := grownCap_ge w s.size 0 5
  simp [Lib.bytesCells]
  have : s.data.size = s.size := rfl
  omega
 have hl : s.data.toList.length = s.size := by rw [Array.length_toList]; rfl
 unfold OwnB
 rw [hl]
 refine .made (by rw [gu, hl, Nat.mul_one]) (Nat.le_refl _) hb.lt hn hm (fun j hj => ?_) (fun j u hu => ?_)
 ·rw [Nat.zero_add]
  refine ⟨by rw [cell_of_row _ _ j _ _ _ AC]; simp; omega, ?_⟩
  simp only [World.frozen?, AC]
  simp
  omega
 ·rw [Nat.zero_add]
  have aJ : j < s.data.toList.length := by
   rcases Nat.lt_or_ge j s.data.toList.length with h' | h'
   ·exact h'
   ·rw [List.getElem?_eq_none (by rw [gu]; exact h')] at hu; cases hu
  rw [hb.cell j aJ]
  simp [Lib.byteCells] at hu
  obtain ⟨x, hx, rfl⟩ := hu
  simp [List.getD_eq_getElem?_getD, hx]
end
def Tab (w : World) : Prop := Lib.TabIs Tryz.prog w "internal/strconv.uint64pow10" .u64 Lib.pow10Tab
theorem Tab.after {w w' : World} (h : Tab w) (hb : Below w.heap.size w w') : Tab w' := by
 unfold Tab Lib.TabIs at *
 cases hg : Tryz.prog.globalNamed "internal/strconv.uint64pow10" with
 | none => unfold World.var? at h; rw [hg] at h; cases h
 | some g =>
  unfold World.var? at h ⊢
  rw [hg] at h ⊢
  simp only [Option.bind_some] at h ⊢
  have aJ : g < w.heap.size := by
   rcases Nat.lt_or_ge g w.heap.size with h' | h'
   ·exact h'
   ·rw [Array.getElem?_eq_none h'] at h; cases h
  rw [hb.block g aJ]
  exact h
def numL (n : Int) : List UInt8 := Lib.decDigits n.toNat
theorem wq (n : Int) : Lib.itoa (max n 0) = numL n := by
 unfold Lib.itoa numL
 rw [if_neg (by omega)]
 congr 1
 omega
theorem rk (n : Int) (h0 : -9223372036854775808 ≤ n) (h1 : n ≤ 9223372036854775807) (w : World) (ht : Tab w) :
  Calls Tryz.prog 126 #[.int .i64 n] w fun e w' => e = .returned (.string ⟨(numL n).toArray⟩) ∧ Below w.heap.size w w' := by
 have HM := I5 (wq n)
 go_enter Tryz.func126, Tryz.ntmps126
 go_wp2_with fail
 refine (Tryz.strconv_Itoa _ (by omega) (by omega) _ ht).mono ?_
 rintro e w' ⟨rfl, k, os, rfl⟩
 rw [HM.out]
 go_wp2_with fail
 go_ret
 exact ⟨rfl, Lib.below_grow _ _ (Nat.le_refl _) _ _⟩
section
variable {P : Program} {ops : Array Oper}
theorem eV {C : World → Prop} {Q : Exit → Act → World → Prop} {K : Act → Prop} {rest : List Oper} : ∀ (l : List Oper) (a : Act) (w : World), C w → wpQuiet P ops C K l a →
  (∀ a' w', C w' → K a' → wpList P ops Q rest a' w') → wpList P ops Q (l ++ rest) a w
 | [], a, w, hw, h, hK => hK a w hw h
 | o :: l, a, w, hw, h, hK => by
  refine wpList_step fun K' hK' => ?_
  unfold wpQuiet at h
  by_cases FU : Region.wanted o (yielded ops a.tmps) = true
  ·rw [if_pos FU] at h ⊢
   exact Oper.wp_of_quiet hw (fun a' w' hw' h' => hK' _ _ (eV l a' w' hw' h' hK)) h
  ·rw [if_neg FU] at h ⊢
   exact hK' _ _ (eV l _ w hw h hK)
theorem bC {Q : Exit → Act → World → Prop} {l : List Oper} {a : Act} {w : World} (n : Nat) (B : Nat) (W : World) (h0 : Below B W w)
  (h : wpQuiet P ops (fun w' => Below B W w') (fun a' => ∀ w', Below B W w' → wpList P ops Q (l.drop n) a' w') (l.take n) a) : wpList P ops Q l a w := by
 have := eV (C := fun w' => Below B W w') (rest := l.drop n) (Q := Q) (l.take n) a w h0 h (fun a' w' hw' hk => hk w' hw')
 rwa [List.take_append_drop] at this
end
section
variable {P : Program} {ops : Array Oper}
theorem aj {C : World → Prop} {Q : Act → Prop} {a : Act} {o : Oper} {rest : List Oper} (dR : Region.wanted o (yielded ops a.tmps) = false) (h : wpQuiet P ops C Q rest (a.put o.dst undef)) : wpQuiet P ops C Q (o :: rest) a := by
 unfold wpQuiet
 rw [if_neg (by rw [dR]; simp)]
 exact h
end
section
variable {P : Program} {ops : Array Oper} {Q : Exit → Act → World → Prop} {md : Region.Mode} {S : World → Prop}
def tameUpon (P : Program) (w : World) (v : Value) : Result Next → Prop
 | .ok (.value u) w' => w' = w ∧ u = v
 | .ok (.enter f args) w' => w' = w ∧ Calls P f args w (fun e w'' => e = .returned v ∧ Below w.heap.size w w'')
 | _ => False
def Tame (P : Program) (ops : Array Oper) (S : World → Prop) (o : Oper) (v : Value) (a : Act) : Prop :=
 (Region.wanted o (yielded ops a.tmps) = true ∧ ∀ w, S w → tameUpon P w v ((execOp a.eval o).run P w)) ∨ (Region.wanted o (yielded ops a.tmps) = false ∧ v = undef)
theorem Tame.wpOp {i : Nat} {o : Oper} {v : Value} {a : Act} (hi : ops[i]? = some o) (hy : Tame P ops S o v a) {K : Act → World → Prop} {w : World} (hS : S w)
  (h : ∀ w2, Below w.heap.size w w2 → K (a.put o.dst v) w2) : wpOp P ops Q i K a w := by
 unfold Go.wpOp
 simp only [hi]
 rcases hy with ⟨hw, hv⟩ | ⟨hw, rfl⟩
 ·simp only [hw, if_true]
  left
  have h1 := hv w hS
  unfold Oper.wp
  generalize (execOp a.eval o).run P w = r at *
  cases r with
  | ok n w' =>
   cases n <;> simp only [tameUpon] at h1 <;> simp only [Oper.upon]
   case value u =>
    obtain ⟨rfl, rfl⟩ := h1
    exact h _ (Below.refl _ _)
   case enter f args =>
    obtain ⟨rfl, hc⟩ := h1
    exact hc.mono fun e w'' ⟨he, hb⟩ => by subst he; exact h _ hb
  | halt x w' => simp only [tameUpon] at h1
 ·simp only [hw, Bool.false_eq_true, if_false]
  exact h _ (Below.refl _ _)
theorem Tame.of_same {o : Oper} {v : Value} {a a' : Act} (hy : Tame P ops S o v a) (he : execOp a'.eval o = execOp a.eval o)
  (hw : Region.wanted o (yielded ops a'.tmps) = Region.wanted o (yielded ops a.tmps)) : Tame P ops S o v a' := by
 unfold Tame at *
 rw [he, hw]
 exact hy
theorem iv {j : Nat} {oi oj : Oper} {v : Value} (hj : ops[j]? = some oj) (Hv : oi.apart ops oj = true) (Ha : ∀ cs b, oi.op ≠ .select cs b) (F2 : ∀ cs b, oj.op ≠ .select cs b)
  (hQ : ∀ c a w, Q (.panic c) (a.put oi.dst v) w → Q (.panic c) a w) {K : Act → World → Prop} {a : Act} {w : World} (hy : Tame P ops S oi v a)
  (h : wpOp P ops Q j K (a.put oi.dst v) w) : wpOp P ops Q j (fun a' w' => Tame P ops S oi v a' ∧ K (a'.put oi.dst v) w') a w := by
 obtain ⟨h1, h2, h3⟩ := Oper.apart_spec Hv
 have keep : ∀ b : Act, Tame P ops S oi v b → ∀ u, Tame P ops S oi v (b.put oj.dst u) := fun b hb u => hb.of_same (execOp_put oi Ha b oj.dst u h3) (wanted_put oi b oj.dst u h3)
 unfold Go.wpOp at *
 simp only [hj] at *
 rw [wanted_put oj a oi.dst v h1] at h
 by_cases hw : Region.wanted oj (yielded ops a.tmps) = true
 ·simp only [hw, if_true] at h ⊢
  rcases h with h | ⟨zN, Co⟩
  case inr => exact .inr ⟨by unfold Oper.asks at *; rw [execOp_put oj F2 a oi.dst v h1] at zN; exact zN, Co⟩
  refine .inl ?_
  unfold Oper.wp at *
  rw [execOp_put oj F2 a oi.dst v h1] at h
  generalize (execOp a.eval oj).run P w = r at *
  cases r with
  | halt x w' =>
   cases x <;> simp only [Oper.upon] at h ⊢
   case panic u => exact hQ _ _ _ h
  | ok n w' =>
   cases n <;> simp only [Oper.upon] at h ⊢
   case value u => exact ⟨keep a hy u, by rw [← Act.put_comm a v u h2]; exact h⟩
   case skip => exact ⟨keep a hy _, by rw [← Act.put_comm a v undef h2]; exact h⟩
   case row row args => exact Rows.mono h fun u w'' he => ⟨keep a hy u, by rw [← Act.put_comm a v u h2]; exact he⟩
   case defer d => exact ⟨keep _ (hy.of_same (a' := { a with defers := d :: a.defers }) rfl rfl) _, by rw [← Act.put_comm _ v undef h2, ← Act.put_defers]; exact h⟩
   case enter f args =>
    refine Calls.mono h fun e w'' he => ?_
    cases e with
    | returned u => exact ⟨keep a hy u, by rw [← Act.put_comm a v u h2]; exact he⟩
    | panicked c => exact hQ _ _ _ he
    | outgrown => exact he
 ·simp only [hw] at h ⊢
  exact ⟨keep a hy _, by rw [← Act.put_comm a v undef h2]; exact h⟩
def wpU (P : Program) (md : Region.Mode) (ops : Array Oper) (Q : Exit → Act → World → Prop) (S : World → Prop) : Nat → Array Bool → Act → World → Prop
 | 0, listed, a, w => Region.ready md ops listed = [] ∧ ∀ w1, Below w.heap.size w w1 → S w1 → Q .normal a w1
 | fuel + 1, listed, a, w => ∀ w1, Below w.heap.size w w1 → S w1 → (Region.ready md ops listed = [] → Q .normal a w1) ∧
   ∀ i ∈ Region.ready md ops listed, wpOp P ops Q i (fun a' w' => S w' ∧ wpU P md ops Q S fuel (listed.setIfInBounds i true) a' w') a w1
theorem pl : ∀ {fuel : Nat} {listed : Array Bool} {a : Act} {w w2 : World}, Below w.heap.size w w2 → wpU P md ops Q S fuel listed a w → wpU P md ops Q S fuel listed a w2
 | 0, _, _, _, _, hb, h => ⟨h.1, fun w1 b1 s1 => h.2 w1 (hb.trans (b1.mono hb.size)) s1⟩
 | _ + 1, _, _, _, _, hb, h => fun w1 b1 s1 => h w1 (hb.trans (b1.mono hb.size)) s1
theorem je : ∀ (fuel : Nat) (listed : Array Bool) (a : Act) (w : World), S w → wpU P md ops Q S fuel listed a w → wpAny P md ops Q fuel listed a w
 | 0, _, _, w, hS, h => ⟨h.1, h.2 w (Below.refl _ _) hS⟩
 | fuel + 1, _, _, w, hS, h => ⟨(h w (Below.refl _ _) hS).1, fun i hi => wpOp_mono (fun a' w' h' => je fuel _ a' w' h'.1 h'.2) ((h w (Below.refl _ _) hS).2 i hi)⟩
theorem f8 {i : Nat} {oi : Oper} {v : Value} (hi : ops[i]? = some oi) (kR : ∀ (j : Nat) (o : Oper) cs b, ops[j]? = some o → o.op ≠ .select cs b)
  (hQ : ∀ c a w, Q (.panic c) (a.put oi.dst v) w → Q (.panic c) a w) (hK : ∀ w w', S w → Below w.heap.size w w' → S w') :
  ∀ (fuel : Nat) (listed : Array Bool) (a : Act) (w : World),
   (∀ j oj, ops[j]? = some oj → j ≠ i → listed.getD j true = false → (∀ e ∈ oj.after, Region.binds md e = true → e.on ≠ i) → oi.apart ops oj = true) →
   i ∈ Region.ready md ops listed → Tame P ops S oi v a → wpU P md ops Q S fuel (listed.setIfInBounds i true) (a.put oi.dst v) w → wpU P md ops Q S (fuel + 1) listed a w
 | 0, listed, a, w, _, hr, hy, H => fun w1 b1 s1 => by
  refine ⟨fun h => (by rw [h] at hr; cases hr), fun j hj => ?_⟩
  by_cases mp : j = i
  ·subst mp
   exact hy.wpOp hi s1 fun w2 b2 => ⟨hK _ _ s1 b2, pl (b1.trans (b2.mono b1.size)) H⟩
  ·have := ready_mono hj mp
   rw [H.1] at this
   cases this
 | fuel + 1, listed, a, w, mq, hr, hy, H => fun w1 b1 s1 => by
  refine ⟨fun h => (by rw [h] at hr; cases hr), fun j hj => ?_⟩
  by_cases mp : j = i
  ·subst mp
   exact hy.wpOp hi s1 fun w2 b2 => ⟨hK _ _ s1 b2, pl (b1.trans (b2.mono b1.size)) H⟩
  ·have h1 := (H w1 b1 s1).2 j (ready_mono hj mp)
   obtain ⟨rK, oj, hoj, hall⟩ := mem_ready.1 hj
   have wE : ∀ e ∈ oj.after, Region.binds md e = true → e.on ≠ i := fun e he hb EB => by
    have h3 := hall e he hb
    have h0 := (mem_ready.1 hr).1
    rw [EB] at h3
    rcases Nat.lt_or_ge i listed.size with h' | h'
    ·simp [h'] at h0 h3; rw [h0] at h3; cases h3
    ·simp [Array.getElem?_eq_none h'] at h3
   have h2 := iv hoj (mq j oj hoj mp rK wE) (fun cs b => kR i oi cs b hi) (fun cs b => kR j oj cs b hoj) hQ hy h1
   refine wpOp_mono (fun a' w' h3 => ⟨h3.2.1, f8 hi kR hQ hK fuel (listed.setIfInBounds j true) a' w' ?_ (ready_mono hr (Ne.symm mp)) h3.1 ?_⟩) h2
   ·intro k ok hk fS zH gy
    refine mq k ok hk fS ?_ gy
    by_cases zJ : j = k
    ·subst zJ; exact rK
    ·rw [getD_set_ne true zJ] at zH; exact zH
   ·rw [Array.setIfInBounds_comm _ _ mp]
    exact h3.2.2
theorem fN {id : Nat} {a : Act} {w : World} {l : List Oper} (S : World → Prop) (hm : P.follows .mixedOrders = true) (h0 : S w.drew)
  (h : wpU P .any l.toArray Q S l.toArray.size (Array.replicate l.toArray.size false) a w.drew) : (Code.region id l.toArray true).wp P Q a w :=
 wp_region_any hm (je _ _ _ _ h0 h)
def Keeps (S : World → Prop) : Prop := ∀ w w', S w → Below w.heap.size w w' → S w'
theorem aG (i : Nat) {oi : Oper} {tl : List Oper} {fuel : Nat} {listed : Array Bool} {a : Act} {w : World} (hB : Keeps S) (hi : ops.toList.drop i = oi :: tl)
  (hs : Region.noSelect ops = true) (hf : Region.free md ops listed i = true) (hr : (Region.ready md ops listed).contains i = true) (dR : Region.wanted oi (yielded ops a.tmps) = true)
  (hQ : ∀ c a w v, Q (.panic c) (a.put oi.dst v) w → Q (.panic c) a w) (v : Value) (hy : ∀ w, S w → (execOp a.eval oi).run P w = .ok (.value v) w)
  (h : wpU P md ops Q S fuel (listed.setIfInBounds i true) (a.put oi.dst v) w) : wpU P md ops Q S (fuel + 1) listed a w :=
 f8 (bB hi) (Region.noSelect_spec hs) (fun c a w => hQ c a w v) hB fuel listed a w (Region.free_spec (bB hi) hf) (by simpa using hr)
  (.inl ⟨dR, fun w hw => by rw [hy w hw]; exact ⟨rfl, rfl⟩⟩) h
theorem vG (i : Nat) {oi : Oper} {tl : List Oper} {fuel : Nat} {listed : Array Bool} {a : Act} {w : World} (hB : Keeps S) (hi : ops.toList.drop i = oi :: tl)
  (hs : Region.noSelect ops = true) (hf : Region.free md ops listed i = true) (hr : (Region.ready md ops listed).contains i = true) (dR : Region.wanted oi (yielded ops a.tmps) = true)
  (hQ : ∀ c a w v, Q (.panic c) (a.put oi.dst v) w → Q (.panic c) a w) (f : FuncId) (args : Array Value) (rH : ∀ w, (execOp a.eval oi).run P w = .ok (.enter f args) w) (v : Value)
  (hc : ∀ w, Calls P f args w fun e w' => e = .returned v ∧ Below w.heap.size w w')
  (h : wpU P md ops Q S fuel (listed.setIfInBounds i true) (a.put oi.dst v) w) : wpU P md ops Q S (fuel + 1) listed a w :=
 f8 (bB hi) (Region.noSelect_spec hs) (fun c a w => hQ c a w v) hB fuel listed a w (Region.free_spec (bB hi) hf) (by simpa using hr)
  (.inl ⟨dR, fun w _ => by rw [rH w]; exact ⟨rfl, hc w⟩⟩) h
theorem xK {rs : List Nat} {fuel : Nat} {listed : Array Bool} {a : Act} {w : World} (hr : Region.ready md ops listed = rs) (gj : rs ≠ [])
  (h : ∀ w1, Below w.heap.size w w1 → S w1 → ∀ i ∈ rs, wpOp P ops Q i (fun a' w' => S w' ∧ wpU P md ops Q S fuel (listed.setIfInBounds i true) a' w') a w1) : wpU P md ops Q S (fuel + 1) listed a w :=
 fun w1 b1 s1 => ⟨fun h0 => absurd (hr ▸ h0) gj, hr ▸ h w1 b1 s1⟩
theorem cB {fuel : Nat} {listed : Array Bool} {a : Act} {w : World} (hr : Region.ready md ops listed = []) (h : ∀ w1, Below w.heap.size w w1 → S w1 → Q .normal a w1) : wpU P md ops Q S fuel listed a w := by
 cases fuel with
 | zero => exact ⟨hr, h⟩
 | succ n => exact fun w1 b1 s1 => ⟨fun _ => h w1 b1 s1, by rw [hr]; simp⟩
theorem es (i : Nat) {oi : Oper} {tl : List Oper} {fuel : Nat} {listed : Array Bool} {a : Act} {w : World} (hi : ops.toList.drop i = oi :: tl) (hr : Region.ready md ops listed = [i]) (dR : Region.wanted oi (yielded ops a.tmps) = true)
  (h : ∀ w1, Below w.heap.size w w1 → S w1 → oi.wp P a w1 (fun a' w' => S w' ∧ wpU P md ops Q S fuel (listed.setIfInBounds i true) a' w') Q) : wpU P md ops Q S (fuel + 1) listed a w :=
 xK hr (by simp) (fun w1 b1 s1 j hj => by
  obtain rfl : j = i := by simpa using hj
  exact wpOp_step (bB hi) (fun K' hK => by rw [if_pos dR]; exact Oper.wp_mono hK (h w1 b1 s1)))
theorem mS (i : Nat) {oi : Oper} {tl : List Oper} {fuel : Nat} {listed : Array Bool} {a : Act} {w : World} (hi : ops.toList.drop i = oi :: tl) (hr : Region.ready md ops listed = [i]) (dR : Region.wanted oi (yielded ops a.tmps) = true)
  (ty : TypeId) (x y : Operand) (ho : oi.op = .store ty x y) {g : Nat} {T : TypeId} {old cells : Array Value} (hg : Box w g T old) (hx : a.eval x = .pointer (some ⟨g, 0, none⟩)) (hy : a.eval y = .agg cells) (mM : old.size = cells.size)
  (hi' : (P.info? ty).map (·.size) = some cells.size) (h1 : cells.all (·.oneCell') = true)
  (h : ∀ w1 w', Below w.heap.size w w1 → S w1 → Box w' g T cells → Stored w1 w' g → S w' ∧ wpU P md ops Q S fuel (listed.setIfInBounds i true) (a.put oi.dst undef) w') : wpU P md ops Q S (fuel + 1) listed a w :=
 es i hi hr dR (fun w1 b1 s1 => dW ty x y ho (hg.after b1) hx hy mM hi' h1 (fun w' hb st => h w1 w' b1 s1 hb st))
theorem aT {o : Oper} {a : Act} {w : World} {K : Act → World → Prop} (f : FuncId) (args : Array Value) (hr : (execOp a.eval o).run P w = .ok (.enter f args) w) (R : Ending → World → Prop) (hc : Calls P f args w R)
  (h : ∀ e w', R e w' → ∃ v, e = .returned v ∧ K (a.put o.dst v) w') : o.wp P a w K Q := by
 unfold Oper.wp
 rw [hr]
 refine hc.mono fun e w' he => ?_
 obtain ⟨v, rfl, hv⟩ := h e w' he
 exact hv
end
end Go.Proofs.YtmmkaclmgnpplaaGreatDoor

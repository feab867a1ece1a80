import Derived.WalkKit
import Derived.Laws.Rows
import Derived.Deep.MidRow
import Derived.Deep.Quiet
import Derived.Below
import Derived.Deep.Cut
import Derived.OrdersHeld
import Derived.RegionTactic
import Derived.Test.YtmmkaclmgnpplaaGreatDoorRows
import Derived.Handy
import Derived.Lib.Hide
import Derived.Lib.UnsafeStr
import Derived.Laws.AppendOwnNone
import Derived.Lib.ConvBytes
import Derived.Laws.BytesString
import Derived.Laws.Cells
import Derived.OwnWalk
set_option maxRecDepth 100000
set_option maxHeartbeats 64000000
set_option linter.unusedSimpArgs false
set_option linter.unusedVariables false
namespace Go.Proofs.YtmmkaclmgnpplaaGreatDoor
open Go.RowKit
theorem I2 {α : Type} (l : List α) (i : Nat) (a : α) : l.toArray.setIfInBounds i a = (l.set i a).toArray := by simp
theorem I3 {α : Type} {x : α} {xs : List α} {a : α} : (x :: xs).set 0 a = a :: xs := by simp
theorem I4 {α : Type} {x : α} {xs : List α} {n : Nat} {a : α} : (x :: xs).set (n + 1) a = x :: xs.set n a := by simp
theorem I5 {p : Prop} (h : p) : Hid p := Lib.hid h
section
variable {P : Program} {ops : Array Oper} {W : World} {B : Nat}
theorem aP {id : Nat} {Q : Exit → Act → World → Prop} {a : Act} {w : World} {l : List Oper} (B : Nat) (W : World) (hm : P.follows .mixedOrders = true) (hB : Region.lexB .any l.toArray = true) (h0 : Below B W w)
  (h : wpQuiet P l.toArray (fun w' => Below B W w') (fun a' => ∀ w', Below B W w' → Q .normal a' w') l a) : (Code.region id l.toArray true).wp P Q a w :=
 wp_region_quiet (C := fun w' => Below B W w') hm hB h0.drew (by simpa using h)
theorem kH {C : World → Prop} {Q : Act → Prop} {a : Act} {o : Oper} {rest : List Oper} (dR : Region.wanted o (yielded ops a.tmps) = true) (h : o.quiet P a C (wpQuiet P ops C Q rest)) : wpQuiet P ops C Q (o :: rest) a := by
 unfold wpQuiet
 rw [if_pos dR]
 exact h
theorem aa {C : World → Prop} {Q : Act → Prop} {a : Act} {o : Oper} {rest : List Oper} (dR : Region.wanted o (yielded ops a.tmps) = true) (v : Value) (hr : ∀ w, C w → (execOp a.eval o).run P w = .ok (.value v) w)
  (h : wpQuiet P ops C Q rest (a.put o.dst v)) : wpQuiet P ops C Q (o :: rest) a :=
 kH dR ⟨v, fun w hw => by unfold Oper.quietAt; rw [hr w hw]; exact ⟨rfl, rfl⟩, h⟩
theorem n8 {Q : Act → Prop} {a : Act} {o : Oper} {rest : List Oper} (dR : Region.wanted o (yielded ops a.tmps) = true) (ty : TypeId) (x : Operand) (ho : o.op = .load ty x)
  (g : Nat) (hx : a.eval x = .pointer (some ⟨g, 0, none⟩)) (t : TypeId) (cs : Array Value) (fr : Nat × Nat) (d : TypeDesc) (hg : W.heap[g]? = some (.cells cs t fr)) (Ew : g < B)
  (hu : P.underlying ty = some d) (hd : (match d with | .struct _ | .array _ _ => true | _ => false) = true) (hi : (P.info? ty).map (·.size) = some cs.size)
  (h : wpQuiet P ops (fun w' => Below B W w') Q rest (a.put o.dst (.agg cs))) : wpQuiet P ops (fun w' => Below B W w') Q (o :: rest) a :=
 aa dR _ (fun w hw => by
  unfold execOp
  simp only [ho, hx, Instr.loadAt, Instr.sureAddr, Sem.run_bind, Sem.run_pure, Result.andThen_ok, run_loadVar_row w g t ty cs fr d ((hw.block g Ew).trans hg) hu hd hi]) h
theorem bI {Q : Act → Prop} {a : Act} {o : Oper} {rest : List Oper} (dR : Region.wanted o (yielded ops a.tmps) = true) (ty : TypeId) (x : Operand) (ho : o.op = .load ty x)
  (b k : Nat) (hx : a.eval x = .pointer (some ⟨b, k, none⟩)) (cs : List Value) (d : TypeDesc) (hS : W.rangeAt b k cs) (hb : b < B)
  (hu : P.underlying ty = some d) (hd : d.isRow = true) (hi : (P.info? ty).map (·.size) = some cs.length)
  (h : wpQuiet P ops (fun w' => Below B W w') Q rest (a.put o.dst (.agg cs.toArray))) : wpQuiet P ops (fun w' => Below B W w') Q (o :: rest) a :=
 aa dR _ (fun w hw => by
  unfold execOp
  simp only [ho, hx, Instr.loadAt, Instr.sureAddr, Sem.run_bind, Sem.run_pure, Result.andThen_ok, run_loadVar_mid w b k ty cs d (fun j v hv => (hw.cell (p := ⟨b, k + j, none⟩) hb).trans (hS j v hv)) hu hd hi]) h
theorem jB {Q : Act → Prop} {a : Act} {o : Oper} {rest : List Oper} (dR : Region.wanted o (yielded ops a.tmps) = true) (f : FuncId) (args : Array Value) (hr : ∀ w, (execOp a.eval o).run P w = .ok (.enter f args) w) (v : Value) (hB : B ≤ W.heap.size)
  (hc : ∀ w, Calls P f args w fun e w' => e = .returned v ∧ Below w.heap.size w w')
  (h : wpQuiet P ops (fun w' => Below B W w') Q rest (a.put o.dst v)) : wpQuiet P ops (fun w' => Below B W w') Q (o :: rest) a :=
 kH dR ⟨v, fun w hw => by
  unfold Oper.quietAt
  rw [hr w]
  exact ⟨rfl, (hc w).mono fun e w'' ⟨he, hb⟩ => ⟨he, hw.trans (hb.mono (by have := hw.size; omega))⟩⟩, h⟩
end
section
def Box (w : World) (g : Nat) (T : TypeId) (cs : Array Value) : Prop := w.heap[g]? = some (.cells cs T (0, 0))
theorem Box.lt {w : World} {g : Nat} {T : TypeId} {cs : Array Value} (h : Box w g T cs) : g < w.heap.size := by
 rcases Nat.lt_or_ge g w.heap.size with h' | h'
 ·exact h'
 ·unfold Box at h; simp [Array.getElem?_eq_none h'] at h
theorem Box.below {w w' : World} {g B : Nat} {T : TypeId} {cs : Array Value} (h : Box w g T cs) (hb : Below B w w') (hg : g < B) : Box w' g T cs := (hb.block g hg).trans h
theorem Box.after {w w' : World} {g : Nat} {T : TypeId} {cs : Array Value} (h : Box w g T cs) (hb : Below w.heap.size w w') : Box w' g T cs := h.below hb h.lt
theorem Box.new (w : World) (T : TypeId) (cs : Array Value) : Box (w.alloc (.cells cs T)) w.heap.size T cs := heap_alloc_new _ _
theorem Box.alloc {w : World} {g : Nat} {T : TypeId} {cs : Array Value} (h : Box w g T cs) (o : Obj) : Box (w.alloc o) g T cs := (heap_alloc_old _ _ h.lt).trans h
theorem Box.drew {w : World} {g : Nat} {T : TypeId} {cs : Array Value} (h : Box w g T cs) : Box w.drew g T cs := h
theorem Box.set {w : World} {g : Nat} {T : TypeId} {cs : Array Value} (h : Box w g T cs) (i : Nat) (v : Value) : Box (w.setCell ⟨g, i, none⟩ v) g T (cs.setIfInBounds i v) := heap_setCell_same _ _ _ _ _ _ h
theorem Box.far {w : World} {g : Nat} {T : TypeId} {cs : Array Value} (h : Box w g T cs) (a : Addr) (v : Value) (gj : g ≠ a.block) : Box (w.setCell a v) g T cs := (heap_setCell_other _ _ _ _ gj).trans h
theorem Box.cell {w : World} {g : Nat} {T : TypeId} {cs : Array Value} (h : Box w g T cs) (j : Nat) {v : Value} (hv : cs[j]? = some v) : w.cell? ⟨g, j, none⟩ = some v := (cell_of_row w g j cs T _ h).trans hv
theorem Box.frozen {w : World} {g : Nat} {T : TypeId} {cs : Array Value} (h : Box w g T cs) (j : Nat) : w.frozen? ⟨g, j, none⟩ = false := frozen_of_row w g j cs T h
structure Stored (w w' : World) (g : Nat) : Prop where
 other : ∀ k, k ≠ g → w'.heap[k]? = w.heap[k]?
 size : w'.heap.size = w.heap.size
 below : ∀ (B : Nat) (W : World), B ≤ g → Below B W w → Below B W w'
theorem Stored.refl (w : World) (g : Nat) : Stored w w g := ⟨fun _ _ => rfl, rfl, fun _ _ _ h => h⟩
theorem Stored.setCell {w w' : World} {g : Nat} (h : Stored w w' g) (i : Nat) (v : Value) : Stored w (w'.setCell ⟨g, i, none⟩ v) g :=
 ⟨fun k hk => (heap_setCell_other _ _ _ _ hk).trans (h.other k hk), by simp [h.size], fun B W hB hb => (h.below B W hB hb).setCell hB _⟩
theorem Stored.box {w w' : World} {g k : Nat} {T : TypeId} {cs : Array Value} (h : Stored w w' g) (hb : Box w k T cs) (hk : k ≠ g) : Box w' k T cs := (h.other k hk).trans hb
theorem gI (g : Nat) (T : TypeId) : ∀ (vs : List Value) (o : Nat) (w : World) (pre : List Value) (post : List Value), pre.length = o → post.length = vs.length → Box w g T (pre ++ post).toArray →
  Box (w.setCells g o vs) g T (pre ++ vs).toArray ∧ Stored w (w.setCells g o vs) g
 | [], o, w, pre, post, _, hl, h => by
  have : post = [] := List.eq_nil_of_length_eq_zero hl
  subst this
  exact ⟨h, Stored.refl _ _⟩
 | v :: vs, o, w, pre, [], _, hl, _ => by cases hl
 | v :: vs, o, w, pre, p :: post, hp, hl, h => by
  have h1 := h.set o v
  have e : (pre ++ p :: post).toArray.setIfInBounds o v = ((pre ++ [v]) ++ post).toArray := by
   subst hp
   simp
  rw [e] at h1
  have h2 := gI g T vs (o + 1) (w.setCell ⟨g, o, none⟩ v) (pre ++ [v]) post (by simp [hp]) (by simpa using hl) h1
  refine ⟨by simpa [World.setCells] using h2.1, ?_⟩
  have h3 := (Stored.refl w g).setCell o v
  exact ⟨fun k hk => (h2.2.other k hk).trans (h3.other k hk), h2.2.size.trans h3.size, fun B W hB hb => h2.2.below B W hB (h3.below B W hB hb)⟩
theorem nV {w : World} {g : Nat} {T : TypeId} {cs : Array Value} (h : Box w g T cs) : w.there g 0 cs.size := fun j hj => by
 rw [Nat.zero_add]
 exact ⟨by rw [cell_of_row w g j cs T _ h]; simp [hj], h.frozen j⟩
variable {P : Program} {ops : Array Oper}
theorem ds {o : Oper} {a : Act} {w : World} {ty : TypeId} {x : Operand} (ho : o.op = .load ty x)
  {g : Nat} {T : TypeId} {cs : Array Value} (hg : Box w g T cs) (hx : a.eval x = .pointer (some ⟨g, 0, none⟩)) {d : TypeDesc}
  (hu : P.underlying ty = some d) (hd : (match d with | .struct _ | .array _ _ => true | _ => false) = true) (hi : (P.info? ty).map (·.size) = some cs.size) : (execOp a.eval o).run P w = .ok (.value (.agg cs)) w := by
 unfold execOp
 simp only [ho, hx, Instr.loadAt, Instr.sureAddr, Sem.run_bind, Sem.run_pure, Result.andThen_ok, run_loadVar_row w g T ty cs (0, 0) d hg hu hd hi]
theorem gX {rest : List Oper} {o : Oper} {a : Act} {w : World} {Q : Exit → Act → World → Prop} (dR : Region.wanted o (yielded ops a.tmps) = true)
  (h : ∀ K : Act → World → Prop, (∀ a w, wpList P ops Q rest a w → K a w) → o.wp P a w K Q) : wpList P ops Q (o :: rest) a w :=
 wpList_step fun K hK => by rw [if_pos dR]; exact h K hK
theorem ab {rest : List Oper} {o : Oper} {a : Act} {w : World} {Q : Exit → Act → World → Prop} (dR : Region.wanted o (yielded ops a.tmps) = true) (ty : TypeId) (x : Operand) (ho : o.op = .load ty x)
  {g : Nat} {T : TypeId} {cs : Array Value} (hg : Box w g T cs) (hx : a.eval x = .pointer (some ⟨g, 0, none⟩)) {d : TypeDesc}
  (hu : P.underlying ty = some d) (hd : (match d with | .struct _ | .array _ _ => true | _ => false) = true) (hi : (P.info? ty).map (·.size) = some cs.size)
  (h : wpList P ops Q rest (a.put o.dst (.agg cs)) w) : wpList P ops Q (o :: rest) a w :=
 gX dR fun _ hK => wp_load_row ty x ho g hx T cs (0, 0) d hg hu hd hi (hK _ _ h)
theorem ac {rest : List Oper} {o : Oper} {a : Act} {w : World} {Q : Exit → Act → World → Prop} (dR : Region.wanted o (yielded ops a.tmps) = true) (ty : TypeId) (x y : Operand) (ho : o.op = .store ty x y)
  {g : Nat} {T : TypeId} {old cells : Array Value} (hg : Box w g T old) (hx : a.eval x = .pointer (some ⟨g, 0, none⟩)) (hy : a.eval y = .agg cells) (mM : old.size = cells.size)
  (hi : (P.info? ty).map (·.size) = some cells.size) (h1 : cells.all (·.oneCell') = true)
  (h : ∀ w', Box w' g T cells → Stored w w' g → wpList P ops Q rest (a.put o.dst undef) w') : wpList P ops Q (o :: rest) a w := by
 have hs := gI g T cells.toList 0 w [] old.toList rfl (by simpa using mM) (by simpa using hg)
 exact gX dR fun _ hK => wp_store_mid ty x y ho g 0 cells hx hy (mM ▸ nV hg) hi h1 (hK _ _ (h _ (by simpa using hs.1) hs.2))
theorem dW {o : Oper} {a : Act} {w : World} {K : Act → World → Prop} {Q : Exit → Act → World → Prop} (ty : TypeId) (x y : Operand) (ho : o.op = .store ty x y)
  {g : Nat} {T : TypeId} {old cells : Array Value} (hg : Box w g T old) (hx : a.eval x = .pointer (some ⟨g, 0, none⟩)) (hy : a.eval y = .agg cells) (mM : old.size = cells.size)
  (hi : (P.info? ty).map (·.size) = some cells.size) (h1 : cells.all (·.oneCell') = true)
  (h : ∀ w', Box w' g T cells → Stored w w' g → K (a.put o.dst undef) w') : o.wp P a w K Q := by
 have hs := gI g T cells.toList 0 w [] old.toList rfl (by simpa using mM) (by simpa using hg)
 exact wp_store_mid ty x y ho g 0 cells hx hy (mM ▸ nV hg) hi h1 (h _ (by simpa using hs.1) hs.2)
theorem bB {i : Nat} {oi : Oper} {tl : List Oper} (hi : ops.toList.drop i = oi :: tl) : ops[i]? = some oi := by
 have h : (ops.toList.drop i)[0]? = some oi := by rw [hi]; rfl
 simpa using h
theorem aU {W : World} {B : Nat} {Q : Act → Prop} {a : Act} {o : Oper} {rest : List Oper} (dR : Region.wanted o (yielded ops a.tmps) = true) (ty : TypeId) (x : Operand) (ho : o.op = .load ty x)
  {g : Nat} {T : TypeId} {cs : Array Value} (hg : Box W g T cs) (hx : a.eval x = .pointer (some ⟨g, 0, none⟩)) (Ew : g < B) {d : TypeDesc}
  (hu : P.underlying ty = some d) (hd : (match d with | .struct _ | .array _ _ => true | _ => false) = true) (hi : (P.info? ty).map (·.size) = some cs.size)
  (h : wpQuiet P ops (fun w' => Below B W w') Q rest (a.put o.dst (.agg cs))) : wpQuiet P ops (fun w' => Below B W w') Q (o :: rest) a :=
 n8 dR ty x ho g hx T cs (0, 0) d hg Ew hu hd hi h
theorem ae {fn : Func} {p : Tmp} {ty : TypeId} (h : fn.results = #[.cell p ty]) (tmps : Array Value) (w : World) {g : Nat} {T : TypeId} {cs : Array Value} {d : TypeDesc}
  (hp : tmps.getD p undef = .pointer (some ⟨g, 0, none⟩)) (hg : Box w g T cs) (hu : P.underlying ty = some d) (hd : (match d with | .struct _ | .array _ _ => true | _ => false) = true) (hi : (P.info? ty).map (·.size) = some cs.size) :
  (results fn tmps).run P w = .ok (.agg cs) w :=
 results_cell_row h tmps w g T cs (0, 0) d hp hg hu hd hi
theorem fW {fn : Func} {p q : Tmp} {ty : TypeId} (h : fn.results = #[.cell p ty, .tmp q]) (tmps : Array Value) (w : World) {g : Nat} {T : TypeId} {cs : Array Value} {d : TypeDesc}
  (hp : tmps.getD p undef = .pointer (some ⟨g, 0, none⟩)) (hg : Box w g T cs) (hu : P.underlying ty = some d) (hd : (match d with | .struct _ | .array _ _ => true | _ => false) = true) (hi : (P.info? ty).map (·.size) = some cs.size) :
  (results fn tmps).run P w = .ok (.tuple #[.agg cs, tmps.getD q undef]) w := by
 have hp' : tmps[p]?.getD undef = .pointer (some ⟨g, 0, none⟩) := by simpa using hp
 simp [results, h, hp', asAddr, run_loadVar_row w g T ty cs (0, 0) d hg hu hd hi]
end
def IsRow (k : IntKind) (w : World) (a : Option Addr) (len cap : Nat) (zs : List Int) : Prop :=
 (a = none ∧ len = 0 ∧ cap = 0 ∧ zs = []) ∨
 ∃ x, a = some x ∧ len ≤ cap ∧ cap ≤ maxLen ∧ zs.length = cap ∧ (∀ i, i < zs.length → w.cell? (x.add i) = some (.int k (zs.getD i 0))) ∧ ∀ n ∈ zs, (Lit.int k n).wf = true
def Sl (w : World) (a : Option Addr) (len cap : Nat) (l : List UInt8) : Prop :=
 len = l.length ∧ len ≤ cap ∧ cap ≤ maxLen ∧ (a = none → cap = 0) ∧ (len = 0 ∨ ∃ b o, a = some ⟨b, o, none⟩ ∧ ∀ i, i < len → w.cell? ⟨b, o + i, none⟩ = some (.int .u8 ((l.getD i 0).toNat : Int)))
theorem Sl.below {w w' : World} {a : Option Addr} {len cap : Nat} {l : List UInt8} {B : Nat} (h : Sl w a len cap l) (hb : Below B w w')
  (hB : ∀ b o, len ≠ 0 → a = some ⟨b, o, none⟩ → b < B) : Sl w' a len cap l := by
 obtain ⟨h1, h2, h3, h5, h4⟩ := h
 refine ⟨h1, h2, h3, h5, ?_⟩
 rcases h4 with h4 | ⟨b, o, rfl, h4⟩
 ·exact .inl h4
 ·by_cases h0 : len = 0
  ·exact .inl h0
  ·exact .inr ⟨b, o, rfl, fun i hi => (hb.cell (hB b o h0 rfl)).trans (h4 i hi)⟩
theorem cA {w : World} {b o : Nat} {v : Value} (h : w.cell? ⟨b, o, none⟩ = some v) : b < w.heap.size := by
 rcases Nat.lt_or_ge b w.heap.size with h' | h'
 ·exact h'
 ·simp [World.cell?, Array.getElem?_eq_none h'] at h
theorem Sl.lt {w : World} {a : Option Addr} {len cap : Nat} {l : List UInt8} (h : Sl w a len cap l) : ∀ b o, len ≠ 0 → a = some ⟨b, o, none⟩ → b < w.heap.size := by
 obtain ⟨h1, h2, h3, h5, h4⟩ := h
 intro b o h0 ha
 rcases h4 with h4 | ⟨b', o', rfl, h4⟩
 ·exact absurd h4 h0
 ·obtain ⟨rfl, rfl⟩ : b' = b ∧ o' = o := by simpa using ha
  exact cA (h4 0 (by omega))
theorem Sl.after {w w' : World} {a : Option Addr} {len cap : Nat} {l : List UInt8} (h : Sl w a len cap l) (hb : Below w.heap.size w w') : Sl w' a len cap l := h.below hb h.lt
theorem Sl.drop {w : World} {b o len cap : Nat} {l : List UInt8} (n : Nat) (h : Sl w (some ⟨b, o, none⟩) len cap l) (hn : n ≤ len) :
  Sl w (if cap = n then some ⟨b, o, none⟩ else some ⟨b, o + n, none⟩) (len - n) (cap - n) (l.drop n) := by
 obtain ⟨h1, h2, h3, h5, h4⟩ := h
 refine ⟨by simp [h1], by omega, by omega, (by intro h; split at h <;> cases h), ?_⟩
 by_cases h0 : len - n = 0
 ·exact .inl h0
 ·right
  rcases h4 with h4 | ⟨b', o', e, h4⟩
  ·omega
  ·obtain ⟨rfl, rfl⟩ : b = b' ∧ o = o' := by simpa using e
   refine ⟨b, o + n, by rw [if_neg (by omega)], fun i hi => ?_⟩
   rw [Nat.add_assoc, h4 (n + i) (by omega)]
   simp [List.getD_eq_getElem?_getD, List.getElem?_drop]
theorem Sl.take {w : World} {a : Option Addr} {len cap : Nat} {l : List UInt8} (n : Nat) (h : Sl w a len cap l) (hn : n ≤ len) :
  Sl w a n cap (l.take n) := by
 obtain ⟨h1, h2, h3, h5, h4⟩ := h
 refine ⟨by simp; omega, by omega, h3, h5, ?_⟩
 by_cases h0 : n = 0
 ·exact .inl h0
 ·right
  rcases h4 with h4 | ⟨b', o', e, h4⟩
  ·omega
  ·refine ⟨b', o', e, fun i hi => ?_⟩
   rw [h4 i (by omega)]
   simp [List.getD_eq_getElem?_getD, hi]
theorem IsRow.sl {w : World} {a : Option Addr} {len cap : Nat} {zs : List Int} (h : IsRow .u8 w a len cap zs) : ∃ l, Sl w a len cap l := by
 rcases h with ⟨rfl, rfl, rfl, rfl⟩ | ⟨x, rfl, h1, h2, h3, h4, h5⟩
 ·exact ⟨[], rfl, Nat.le_refl _, Nat.zero_le _, fun _ => rfl, .inl rfl⟩
 ·refine ⟨(zs.take len).map fun n => UInt8.ofNat n.toNat, by simp; omega, h1, h2, (fun h => by cases h), ?_⟩
  by_cases h0 : len = 0
  ·exact .inl h0
  ·right
   obtain ⟨b, o, spot⟩ := x
   have hc := h4 0 (by omega)
   have Ci : spot = none := by simpa [Addr.add] using World.cell?_spot hc
   subst Ci
   refine ⟨b, o, rfl, fun i hi => ?_⟩
   have hc := h4 i (by omega)
   replace hc := (congrArg w.cell? (Addr.add_lit b o i)).symm.trans hc
   rw [hc]
   have aJ : i < zs.length := by omega
   obtain ⟨z, hz⟩ : ∃ z, z = zs.getD i 0 := ⟨_, rfl⟩
   have G5 := h5 z (by rw [hz]; simp [List.getD_eq_getElem?_getD, aJ])
   rw [← hz]
   have IR : 0 ≤ z ∧ z < 256 := by
    simp [Lit.wf, IntKind.min, IntKind.max, IntKind.bits, IntKind.signed] at G5
    omega
   have e : ((zs.take len).map fun n => UInt8.ofNat n.toNat).getD i 0 = UInt8.ofNat z.toNat := by
    rw [hz]
    simp [List.getD_eq_getElem?_getD, hi, aJ]
   rw [e]
   congr 2
   simp
   omega
theorem Sl.ofOwns {w : World} {B e n : Nat} {v : Value} {l : List UInt8} (h : w.ownsRow B e 1 v n (Lib.byteCells l)) : ∃ a cap, v = .slice a n cap ∧ Sl w a n cap l := by
 have hl : l.length = n := by have := h.1; simpa [Lib.byteCells] using this
 rcases h.2 with ⟨rfl, rfl⟩ | ⟨g, cap, cur, rfl, hg, hb, hn, hm, hs, ht⟩
 ·exact ⟨none, 0, rfl, hl.symm, Nat.le_refl _, Nat.zero_le _, fun _ => rfl, .inl rfl⟩
 ·refine ⟨some ⟨g, 0, none⟩, cap, rfl, hl.symm, hn, hm, (fun h => by cases h), .inr ⟨g, 0, rfl, fun i hi => ?_⟩⟩
  have := h.cellAt i (by simpa using hi)
  rw [Nat.zero_add, this]
  simp [Lib.byteCells, List.getD_eq_getElem?_getD, show i < l.length by omega]
theorem gv (a b : List UInt8) : Lib.byteCells a ++ Lib.byteCells b = Lib.byteCells (a ++ b) := by simp [Lib.byteCells]
theorem gu (a : List UInt8) : (Lib.byteCells a).length = a.length := by simp [Lib.byteCells]
theorem n5 {P : Program} {w : World} {o : Oper} {a : Act} {K : Act → World → Prop} {Q : Exit → Act → World → Prop} (s x : Operand) (t : TypeId)
  (ho : o.op = .call { callee := .builtin .append, args := #[s, x], argTypes := #[t, t] })
  (base : Nat) (e : TypeId) (i : TypeInfo) (ht : P.underlying t = some (.slice e)) (hi : P.info? e = some i) (hz : i.zero = some (.int .u8 0)) (mj : i.size = 1) (AP : i.bytes = 1)
  (v : Value) (n : Nat) (l : List UInt8) (hs : a.eval s = v) (iX : w.ownsRow base e 1 v n (Lib.byteCells l))
  (ax : Option Addr) (m c : Nat) (l2 : List UInt8) (hx : a.eval x = .slice ax m c) (hsl : Sl w ax m c l2)
  (fc : n + m ≤ 140737488355328) (wK : base ≤ w.heap.size)
  (h : ∀ v' w', w'.ownsRow base e 1 v' (n + m) (Lib.byteCells (l ++ l2)) → w.grownBy w' v.ownBlock → K (a.put o.dst v') w') : o.wp P a w K Q := by
 obtain ⟨h1, h2, h3, h5, h4⟩ := hsl
 cases ax with
 | none =>
  have hc := h5 rfl
  subst hc
  obtain rfl : m = 0 := by omega
  have jx : l2 = [] := List.eq_nil_of_length_eq_zero h1.symm
  subst jx
  have rH := run_append_owned_none (P := P) (w := w) base t o.type e i 1 ht hi v n _ iX
  unfold Oper.wp
  simp [execOp, ho, resolve, invoke, builtin, hs, hx, rH, Result.andThen]
  exact h v w (by simpa using iX) (World.grownBy.refl w _)
 | some ad =>
  refine wp_append_own w s x t ho base e i (.int .u8 0) 1 1 ht hi hz mj AP rfl (by decide) v n _ hs iX ad m c (Lib.byteCells l2) hx (by simp [Lib.byteCells, h1]) ?_ ?_ (by unfold maxLen; omega) (by omega) wK ?_
  ·intro j u hj
   rcases h4 with h4 | ⟨b, o', e', h4⟩
   ·have jx : l2 = [] := List.eq_nil_of_length_eq_zero (by omega)
    subst jx
    simp [Lib.byteCells] at hj
   ·obtain rfl := Option.some.inj e'
    have aJ : j < l2.length := by
     rcases Nat.lt_or_ge j l2.length with h' | h'
     ·exact h'
     ·simp [Lib.byteCells, List.getElem?_eq_none h'] at hj
    simp [Lib.byteCells, aJ] at hj
    rw [Addr.add_lit, h4 j (by omega), ← hj]
    simp [List.getD_eq_getElem?_getD, aJ]
  ·intro u hu
   obtain ⟨_, _, rfl⟩ := List.mem_map.1 hu
   rfl
  ·intro v' w' ho' hg' _
   exact h v' w' (by rw [← gv]; exact ho') hg'
theorem kI {P : Program} {w : World} {ops : Array Oper} {rest : List Oper} {o : Oper} {a : Act} {Q : Exit → Act → World → Prop} (dR : o.guard = none) (s x : Operand) (t : TypeId)
  (ho : o.op = .call { callee := .builtin .append, args := #[s, x], argTypes := #[t, t] })
  (base : Nat) (e : TypeId) (i : TypeInfo) (ht : P.underlying t = some (.slice e)) (hi : P.info? e = some i) (hz : i.zero = some (.int .u8 0)) (mj : i.size = 1) (AP : i.bytes = 1)
  (v : Value) (n : Nat) (l : List UInt8) (hs : a.eval s = v) (iX : w.ownsRow base e 1 v n (Lib.byteCells l))
  (ax : Option Addr) (m c : Nat) (l2 : List UInt8) (hx : a.eval x = .slice ax m c) (hsl : Sl w ax m c l2)
  (fc : n + m ≤ 140737488355328) (wK : base ≤ w.heap.size)
  (h : ∀ v' w', w'.ownsRow base e 1 v' (n + m) (Lib.byteCells (l ++ l2)) → w.grownBy w' v.ownBlock → wpList P ops Q rest (a.put o.dst v') w') : wpList P ops Q (o :: rest) a w :=
 wpList_plain dR fun _ hK => n5 s x t ho base e i ht hi hz mj AP v n l hs iX ax m c l2 hx hsl fc wK fun v' w' h2 h3 => hK _ _ (h v' w' h2 h3)
theorem rQ (l : List UInt8) : ∀ s : ByteArray, (l.map fun c => (c.toNat : Int)).foldl (fun r n => r.push (UInt8.ofNat n.toNat)) s = ⟨s.data ++ l.toArray⟩ := by
 induction l with
 | nil => intro s; simp
 | cons a t ih =>
  intro s
  simp only [List.map_cons, List.foldl_cons]
  rw [ih]
  apply ByteArray.ext
  show (s.data.push (UInt8.ofNat ((a.toNat : Int).toNat))) ++ t.toArray = s.data ++ (a :: t).toArray
  simp [UInt8.ofNat_toNat]
theorem bv {w : World} {a : Option Addr} {len cap : Nat} {l : List UInt8} (h : Sl w a len cap l) :
  (convert 22 9 (.slice a len cap)).run Tryz.prog w = .ok (.string ⟨l.toArray⟩) w := by
 rw [run_convert_bytes_string w 22 9 5 a len cap Tryz.underlying22 Tryz.underlying5 Tryz.underlying9]
 obtain ⟨h1, h2, h3, h5, h4⟩ := h
 cases a with
 | none =>
  have hc := h5 rfl
  have : l = [] := List.eq_nil_of_length_eq_zero (by omega)
  subst this
  rfl
 | some ad =>
  rw [run_bytesToString w ad len cap (l.map fun c => (c.toNat : Int))]
  ·rw [rQ]; simp [ByteArray.empty, ByteArray.emptyWithCapacity]; rfl
  ·have hh := run_loadCells_list (P := Tryz.prog) (w := w) ad (l.map fun c => Value.int .u8 (c.toNat : Int)) ?_
   ·rw [show ((l.map fun c => (c.toNat : Int)).map (Value.int .u8)) = l.map fun c => Value.int .u8 (c.toNat : Int) by simp]
    rw [← hh, h1]; simp
   ·intro j v hj
    rcases h4 with h4 | ⟨b, o, e, h4⟩
    ·have : l = [] := List.eq_nil_of_length_eq_zero (by omega)
     subst this
     simp at hj
    ·obtain rfl := Option.some.inj e
     have aJ : j < l.length := by
      rcases Nat.lt_or_ge j l.length with h' | h'
      ·exact h'
      ·simp [List.getElem?_eq_none h'] at hj
     simp [aJ] at hj
     rw [Addr.add_lit, h4 j (by omega), ← hj]
     simp [List.getD_eq_getElem?_getD, aJ]
def Blk (w : World) (g : Nat) (l : List UInt8) : Prop :=
 ∃ cur fr, w.heap[g]? = some (.cells cur 5 fr) ∧ (fr = (0, 0) ∨ fr = (cur.size, cur.size + 1)) ∧ l.length ≤ cur.size ∧ cur.size ≤ maxLen ∧ ∀ j, j < l.length → cur[j]? = some (.int .u8 ((l.getD j 0).toNat : Int))
theorem Blk.cell {w : World} {g : Nat} {l : List UInt8} (h : Blk w g l) (j : Nat) (hj : j < l.length) : w.cell? ⟨g, j, none⟩ = some (.int .u8 ((l.getD j 0).toNat : Int)) := by
 obtain ⟨cur, fr, hb, _, _, _, hc⟩ := h
 simp only [World.cell?, hb]
 simpa using hc j hj
theorem Blk.lt {w : World} {g : Nat} {l : List UInt8} (h : Blk w g l) : g < w.heap.size := by
 obtain ⟨cur, fr, hb, _⟩ := h
 rcases Nat.lt_or_ge g w.heap.size with h' | h'
 ·exact h'
 ·simp [Array.getElem?_eq_none h'] at hb
theorem xb (w : World) (s : ByteArray) (hs : s.size ≤ 140737488355328) : ∃ c w', (convert 9 22 (.string s)).run Tryz.prog w = .ok (.slice (some ⟨w.heap.size, 0, none⟩) s.size c) w' ∧
  Blk w' w.heap.size s.data.toList ∧ s.size ≤ c ∧ c ≤ maxLen ∧ Below w.heap.size w w' := by
 refine ⟨_, _, Lib.run_convert_string_bytes w 9 22 5 s Tryz.underlying9 Tryz.underlying22 Tryz.underlying5, ?_, grownCap_ge _ _ _ _, grownCap_le_maxLen _ _ _ _ (by unfold maxLen; omega), ?_⟩
 ·have hn := Lib.bytesWorld_at_new w 5 s
  have mM : (Lib.bytesCells w 5 s).size = grownCap w s.size 0 5 := by
   have := grownCap_ge w s.size 0 5
   simp [Lib.bytesCells]
   have : s.data.size = s.size := rfl
   omega
  refine ⟨_, _, hn, .inr rfl, ?_, ?_, ?_⟩
  ·rw [mM]; simpa using grownCap_ge w s.size 0 5
  ·rw [mM]; exact grownCap_le_maxLen _ _ _ _ (by unfold maxLen; omega)
  ·intro j hj
   have zK : j < s.size := by simpa using hj
   simp [Lib.bytesCells, Array.getElem?_append, zK, List.getD_eq_getElem?_getD]
 ·refine ⟨?_, ?_, ?_, ?_, ?_⟩
  ·simp [Lib.bytesWorld, World.freeze, World.alloc, World.drew, -World.alloc_eq, -World.drew_eq]
  ·simp [Lib.bytesWorld, World.freeze, World.alloc, World.drew, -World.alloc_eq, -World.drew_eq]
  ·simp [Lib.bytesWorld, World.freeze, World.alloc, World.drew, -World.alloc_eq, -World.drew_eq]
  ·simp [Lib.bytesWorld, World.freeze, World.alloc, World.drew, -World.alloc_eq, -World.drew_eq]
  ·intro k hk; exact Lib.bytesWorld_at_old w 5 s k hk
inductive Sx where
 | mk (l h : Bool) (hi da : List UInt8) (ks : List Sx)
instance : Inhabited Sx := ⟨.mk false false [] [] []⟩
def Sx.l : Sx → Bool | .mk l _ _ _ _ => l
def Sx.h : Sx → Bool | .mk _ h _ _ _ => h
def Sx.hi : Sx → List UInt8 | .mk _ _ x _ _ => x
def Sx.da : Sx → List UInt8 | .mk _ _ _ x _ => x
def Sx.ks : Sx → List Sx | .mk _ _ _ _ x => x
theorem Sx.ind {p : Sx → Prop} (h : ∀ l hh hi da ks, (∀ k ∈ ks, p k) → p (.mk l hh hi da ks)) (s : Sx) : p s :=
 Sx.rec (motive_1 := p) (motive_2 := fun ks => ∀ k ∈ ks, p k) (fun l hh hi da ks ih => h l hh hi da ks ih) (fun k hk => by cases hk)
  (fun k ks hk ih j hj => by
   rcases List.mem_cons.1 hj with rfl | hj
   ·exact hk
   ·exact ih j hj) s
structure SV where
 l : Bool
 h : Bool
 a1 : Option Addr
 n1 : Nat
 c1 : Nat
 a2 : Option Addr
 n2 : Nat
 c2 : Nat
 a3 : Option Addr
 n3 : Nat
 c3 : Nat
def SV.cells (v : SV) : Array Value := #[.bool v.l, .bool v.h, .slice v.a1 v.n1 v.c1, .slice v.a2 v.n2 v.c2, .slice v.a3 v.n3 v.c3]
def SV.val (v : SV) : Value := .agg #[.bool v.l, .bool v.h, .slice v.a1 v.n1 v.c1, .slice v.a2 v.n2 v.c2, .slice v.a3 v.n3 v.c3]
def SV.nil : SV := ⟨false, false, none, 0, 0, none, 0, 0, none, 0, 0⟩
instance : Inhabited SV := ⟨SV.nil⟩
theorem SV.cells_size (v : SV) : v.cells.size = 5 := rfl
def InB (ok : Nat → Prop) (a : Option Addr) (n : Nat) : Prop := n = 0 ∨ ∀ b o s, a = some ⟨b, o, s⟩ → ok b
theorem InB.mono {ok ok' : Nat → Prop} {a : Option Addr} {n : Nat} (h : InB ok a n) (hm : ∀ b, ok b → ok' b) : InB ok' a n :=
 h.imp id fun h b o s e => hm b (h b o s e)
def RowAt (w : World) (a : Option Addr) (n c : Nat) (K : Nat → SV) : Prop :=
 n ≤ c ∧ c ≤ maxLen ∧ (a = none → c = 0) ∧ (n = 0 ∨ ∃ b o, a = some ⟨b, o, none⟩ ∧ ∀ i, i < n → ∀ j v, (K i).cells[j]? = some v → w.cell? ⟨b, o + i * 5 + j, none⟩ = some v)
inductive RdI (ok : Nat → Prop) (w : World) : SV → Sx → Prop
 | mk (v : SV) (hi da : List UInt8) (ks : List Sx) (K : Nat → SV) : Sl w v.a1 v.n1 v.c1 hi → InB ok v.a1 v.n1 → Sl w v.a2 v.n2 v.c2 da → InB ok v.a2 v.n2 →
   RowAt w v.a3 v.n3 v.c3 K → InB ok v.a3 v.n3 → v.n3 = ks.length → (∀ i (hi : i < ks.length), RdI ok w (K i) ks[i]) → RdI ok w v (.mk v.l v.h hi da ks)
abbrev Rd (w : World) (v : SV) (s : Sx) : Prop := RdI (fun _ => True) w v s
theorem RdI.parts {ok : Nat → Prop} {w : World} {v : SV} {s : Sx} (h : RdI ok w v s) :
  v.l = s.l ∧ v.h = s.h ∧ Sl w v.a1 v.n1 v.c1 s.hi ∧ Sl w v.a2 v.n2 v.c2 s.da ∧ v.n3 = s.ks.length ∧ v.n3 ≤ v.c3 ∧ v.c3 ≤ maxLen ∧
  ∃ K, RowAt w v.a3 v.n3 v.c3 K ∧ ∀ i (hi : i < s.ks.length), RdI ok w (K i) s.ks[i] := by
 cases h with
 | mk v hi da ks K h1 h2 h3 h4 h5 h6 h7 h8 => exact ⟨rfl, rfl, h1, h3, h7, h5.1, h5.2.1, K, h5, h8⟩
theorem RdI.inb {ok : Nat → Prop} {w : World} {v : SV} {s : Sx} (h : RdI ok w v s) : InB ok v.a1 v.n1 ∧ InB ok v.a2 v.n2 ∧ InB ok v.a3 v.n3 := by
 cases h with
 | mk v hi da ks K h1 h2 h3 h4 h5 h6 h7 h8 => exact ⟨h2, h4, h6⟩
theorem SV.one (v : SV) : v.cells.all (·.oneCell') = true := by simp [SV.cells, Value.oneCell']
theorem RowAt.keep {w w' : World} {a : Option Addr} {n c : Nat} {K : Nat → SV} (h : RowAt w a n c K) (hk : n = 0 ∨ ∀ b o s, a = some ⟨b, o, s⟩ → w'.heap[b]? = w.heap[b]?) : RowAt w' a n c K := by
 obtain ⟨h1, h2, h3, h4⟩ := h
 refine ⟨h1, h2, h3, ?_⟩
 rcases h4 with h4 | ⟨b, o, rfl, h4⟩
 ·exact .inl h4
 ·rcases hk with hk | hk
  ·exact .inl hk
  ·exact .inr ⟨b, o, rfl, fun i hi j v hv => (World.cell?_of_block (a := ⟨b, o + i * 5 + j, none⟩) (hk b o none rfl)).trans (h4 i hi j v hv)⟩
theorem Sl.keep {w w' : World} {a : Option Addr} {n c : Nat} {l : List UInt8} (h : Sl w a n c l) (hk : n = 0 ∨ ∀ b o s, a = some ⟨b, o, s⟩ → w'.heap[b]? = w.heap[b]?) : Sl w' a n c l := by
 obtain ⟨h1, h2, h3, h5, h4⟩ := h
 refine ⟨h1, h2, h3, h5, ?_⟩
 rcases h4 with h4 | ⟨b, o, rfl, h4⟩
 ·exact .inl h4
 ·rcases hk with hk | hk
  ·exact .inl hk
  ·exact .inr ⟨b, o, rfl, fun i hi => (World.cell?_of_block (a := ⟨b, o + i, none⟩) (hk b o none rfl)).trans (h4 i hi)⟩
theorem InB.heap {ok : Nat → Prop} {w w' : World} {a : Option Addr} {n : Nat} (h : InB ok a n) (hk : ∀ b, ok b → w'.heap[b]? = w.heap[b]?) : n = 0 ∨ ∀ b o s, a = some ⟨b, o, s⟩ → w'.heap[b]? = w.heap[b]? :=
 h.imp id fun h b o s e => hk b (h b o s e)
theorem RdI.keep {ok : Nat → Prop} {w w' : World} {v : SV} {s : Sx} (h : RdI ok w v s) (hk : ∀ b, ok b → w'.heap[b]? = w.heap[b]?) : RdI ok w' v s := by
 induction h with
 | mk v hi da ks K h1 h2 h3 h4 h5 h6 h7 h8 ih => exact .mk v hi da ks K (h1.keep (h2.heap hk)) h2 (h3.keep (h4.heap hk)) h4 (h5.keep (h6.heap hk)) h6 h7 ih
theorem RdI.mono {ok ok' : Nat → Prop} {w : World} {v : SV} {s : Sx} (h : RdI ok w v s) (hm : ∀ b, ok b → ok' b) : RdI ok' w v s := by
 induction h with
 | mk v hi da ks K h1 h2 h3 h4 h5 h6 h7 h8 ih => exact .mk v hi da ks K h1 (h2.mono hm) h3 (h4.mono hm) h5 (h6.mono hm) h7 ih
theorem RowAt.lt {w : World} {a : Option Addr} {n c : Nat} {K : Nat → SV} (h : RowAt w a n c K) : InB (fun b => b < w.heap.size) a n := by
 by_cases h0 : n = 0
 ·exact .inl h0
 ·rcases h.2.2.2 with h4 | ⟨b, o, rfl, h4⟩
  ·exact absurd h4 h0
  ·refine .inr fun b' o' s e => ?_
   cases e
   exact cA (h4 0 (by omega) 0 _ rfl)
theorem Sl.inB {w : World} {a : Option Addr} {n c : Nat} {l : List UInt8} (h : Sl w a n c l) : InB (fun b => b < w.heap.size) a n := by
 by_cases h0 : n = 0
 ·exact .inl h0
 ·rcases h.2.2.2.2 with h4 | ⟨b, o, rfl, h4⟩
  ·exact absurd h4 h0
  ·refine .inr fun b' o' s e => ?_
   cases e
   exact cA (h4 0 (by omega))
theorem InB.both {p q : Nat → Prop} {a : Option Addr} {n : Nat} (h : InB p a n) (h' : InB q a n) : InB (fun b => p b ∧ q b) a n := by
 rcases h with h | h
 ·exact .inl h
 ·rcases h' with h' | h'
  ·exact .inl h'
  ·exact .inr fun b o s e => ⟨h b o s e, h' b o s e⟩
theorem RdI.there {ok : Nat → Prop} {w : World} {v : SV} {s : Sx} (h : RdI ok w v s) : RdI (fun b => ok b ∧ b < w.heap.size) w v s := by
 induction h with
 | mk v hi da ks K h1 h2 h3 h4 h5 h6 h7 h8 ih => exact .mk v hi da ks K h1 (h2.both h1.inB) h3 (h4.both h3.inB) h5 (h6.both h5.lt) h7 ih
theorem RdI.after {ok : Nat → Prop} {w w' : World} {v : SV} {s : Sx} (h : RdI ok w v s) (hb : Below w.heap.size w w') : RdI ok w' v s :=
 (h.there.keep fun b hb' => hb.block b hb'.2).mono fun _ h => h.1
theorem RowAt.after {w w' : World} {a : Option Addr} {n c : Nat} {K : Nat → SV} (h : RowAt w a n c K) (hb : Below w.heap.size w w') : RowAt w' a n c K :=
 h.keep (h.lt.imp id fun h b o s e => hb.block b (h b o s e))
theorem RowAt.range {w : World} {a : Option Addr} {n c : Nat} {K : Nat → SV} (h : RowAt w a n c K) {i : Nat} (hi : i < n) :
  ∃ b o, a = some ⟨b, o, none⟩ ∧ w.rangeAt b (o + i * 5) (K i).cells.toList := by
 rcases h.2.2.2 with h4 | ⟨b, o, rfl, h4⟩
 ·omega
 ·exact ⟨b, o, rfl, fun j v hv => h4 i hi j v (by simpa using hv)⟩
def Sx.nil : Sx := .mk false false [] [] []
theorem Sl.nil (w : World) : Sl w none 0 0 [] := ⟨rfl, Nat.le_refl _, Nat.zero_le _, fun _ => rfl, .inl rfl⟩
end Go.Proofs.YtmmkaclmgnpplaaGreatDoor

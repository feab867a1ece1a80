/- Regions that draw their order, whose operations leave alone all memory below a bound: one walk in the order of the text. Blocks of memory that are known whole: loads and stores of whole arrays and structs. Slices of bytes: how they read as lists; cutting, appending. Strings out of bytes, and bytes out of strings. Slices of bytes: two small words more. Regions that draw their order and end in an append. Regions that draw their order: a value or a call, whichever comes up. Regions that draw their order: a call, or a variable made, whichever comes up. S-expressions: how they lie in memory, as trees. How many values a tree holds; the document's nodes. The document's deep, clean and Great: what they compute. The document's Same: what it computes. -/
import Derived.WalkKit
import Derived.Laws.Rows
import Derived.Deep.MidRow
import Derived.Deep.Quiet
import Derived.Below
import Derived.Deep.Cut
import Derived.OrdersHeld
import Derived.RegionTactic
import Derived.Test.YthmigigclmogiaaDoorRows
import Derived.Handy
import Derived.Lib.Hide
import Derived.Lib.UnsafeStr
import Derived.Laws.AppendOwnNone
import Derived.Lib.ConvBytes
import Derived.Laws.BytesString
import Derived.Laws.Cells
import Derived.OwnWalk
namespace Go.Proofs.YthmigigclmogiaaDoor
open Go.RowKit

variable {P : Program} {ops : Array Oper} {W : World} {B : Nat}

theorem wp_region_made {id : Nat} {Q : Exit → Act → World → Prop} {a : Act} {w : World} {l : List Oper} (B : Nat) (W : World) (hm : P.follows .mixedOrders = true) (hB : Region.lexB .any l.toArray = true) (h0 : Below B W w)
    (h : wpQuiet P l.toArray (fun w' => Below B W w') (fun a' => ∀ w', Below B W w' → Q .normal a' w') l a) : (Code.region id l.toArray true).wp P Q a w :=
  wp_region_quiet (C := fun w' => Below B W w') hm hB h0.drew (by simpa using h)

theorem wpQ_plain {C : World → Prop} {Q : Act → Prop} {a : Act} {o : Oper} {rest : List Oper} (hgd : Region.wanted o (yielded ops a.tmps) = true) (h : o.quiet P a C (wpQuiet P ops C Q rest)) : wpQuiet P ops C Q (o :: rest) a := by
  unfold wpQuiet
  rw [if_pos hgd]
  exact h

/-- an operation whose run is known in each world of the class -/
theorem wpQ_run {C : World → Prop} {Q : Act → Prop} {a : Act} {o : Oper} {rest : List Oper} (hgd : Region.wanted o (yielded ops a.tmps) = true) (v : Value) (hr : ∀ w, C w → (execOp a.eval o).run P w = .ok (.value v) w)
    (h : wpQuiet P ops C Q rest (a.put o.dst v)) : wpQuiet P ops C Q (o :: rest) a :=
  wpQ_plain hgd ⟨v, fun w hw => by unfold Oper.quietAt; rw [hr w hw]; exact ⟨rfl, rfl⟩, h⟩

/-- a whole block is loaded -/
theorem wpQ_load_row {Q : Act → Prop} {a : Act} {o : Oper} {rest : List Oper} (hgd : Region.wanted o (yielded ops a.tmps) = true) (ty : TypeId) (x : Operand) (ho : o.op = .load ty x)
    (g : Nat) (hx : a.eval x = .pointer (some ⟨g, 0, none⟩)) (t : TypeId) (cs : Array Value) (fr : Nat × Nat) (d : TypeDesc) (hg : W.heap[g]? = some (.cells cs t fr)) (hgB : g < B)
    (hu : P.underlying ty = some d) (hd : (match d with | .struct _ | .array _ _ => true | _ => false) = true) (hi : (P.info? ty).map (·.size) = some cs.size)
    (h : wpQuiet P ops (fun w' => Below B W w') Q rest (a.put o.dst (.agg cs))) : wpQuiet P ops (fun w' => Below B W w') Q (o :: rest) a :=
  wpQ_run hgd _ (fun w hw => by
    unfold execOp
    simp only [ho, hx, Instr.loadAt, Instr.sureAddr, Sem.run_bind, Sem.run_pure, Result.andThen_ok, run_loadVar_row w g t ty cs fr d ((hw.block g hgB).trans hg) hu hd hi]) h

/-- some cells in the midst of a block are loaded -/
theorem wpQ_load_mid {Q : Act → Prop} {a : Act} {o : Oper} {rest : List Oper} (hgd : Region.wanted o (yielded ops a.tmps) = true) (ty : TypeId) (x : Operand) (ho : o.op = .load ty x)
    (b k : Nat) (hx : a.eval x = .pointer (some ⟨b, k, none⟩)) (cs : List Value) (d : TypeDesc) (hS : W.rangeAt b k cs) (hb : b < B)
    (hu : P.underlying ty = some d) (hd : d.isRow = true) (hi : (P.info? ty).map (·.size) = some cs.length)
    (h : wpQuiet P ops (fun w' => Below B W w') Q rest (a.put o.dst (.agg cs.toArray))) : wpQuiet P ops (fun w' => Below B W w') Q (o :: rest) a :=
  wpQ_run hgd _ (fun w hw => by
    unfold execOp
    simp only [ho, hx, Instr.loadAt, Instr.sureAddr, Sem.run_bind, Sem.run_pure, Result.andThen_ok, run_loadVar_mid w b k ty cs d (fun j v hv => (hw.cell (p := ⟨b, k + j, none⟩) hb).trans (hS j v hv)) hu hd hi]) h

/-- a call by its contract -/
theorem wpQ_call {Q : Act → Prop} {a : Act} {o : Oper} {rest : List Oper} (hgd : Region.wanted o (yielded ops a.tmps) = true) (f : FuncId) (args : Array Value) (hr : ∀ w, (execOp a.eval o).run P w = .ok (.enter f args) w) (v : Value) (hB : B ≤ W.heap.size)
    (hc : ∀ w, Calls P f args w fun e w' => e = .returned v ∧ Below w.heap.size w w')
    (h : wpQuiet P ops (fun w' => Below B W w') Q rest (a.put o.dst v)) : wpQuiet P ops (fun w' => Below B W w') Q (o :: rest) a :=
  wpQ_plain hgd ⟨v, fun w hw => by
    unfold Oper.quietAt
    rw [hr w]
    exact ⟨rfl, (hc w).mono fun e w'' ⟨he, hb⟩ => ⟨he, hw.trans (hb.mono (by have := hw.size; omega))⟩⟩, h⟩

theorem wpQ_move {C : World → Prop} {Q : Act → Prop} {a : Act} {o : Oper} {rest : List Oper} (hgd : Region.wanted o (yielded ops a.tmps) = true) (x : Operand) (ho : o.op = .assign x ∨ o.op = .move x)
    (h : wpQuiet P ops C Q rest (a.put o.dst (a.eval x))) : wpQuiet P ops C Q (o :: rest) a :=
  wpQ_run hgd _ (fun w _ => by unfold execOp; rcases ho with ho | ho <;> simp only [ho] <;> rfl) h

end Go.Proofs.YthmigigclmogiaaDoor
namespace Go.Proofs.YthmigigclmogiaaDoor
open Go.RowKit

/-- a variable of an array's or a struct's type, in a block of its own -/
def Box (w : World) (g : Nat) (T : TypeId) (cs : Array Value) : Prop := w.heap[g]? = some (.cells cs T (0, 0))

theorem Box.lt {w : World} {g : Nat} {T : TypeId} {cs : Array Value} (h : Box w g T cs) : g < w.heap.size := by
  rcases Nat.lt_or_ge g w.heap.size with h' | h'
  · exact h'
  · unfold Box at h; simp [Array.getElem?_eq_none h'] at h
theorem Box.below {w w' : World} {g B : Nat} {T : TypeId} {cs : Array Value} (h : Box w g T cs) (hb : Below B w w') (hg : g < B) : Box w' g T cs := (hb.block g hg).trans h
theorem Box.after {w w' : World} {g : Nat} {T : TypeId} {cs : Array Value} (h : Box w g T cs) (hb : Below w.heap.size w w') : Box w' g T cs := h.below hb h.lt
theorem Box.new (w : World) (T : TypeId) (cs : Array Value) : Box (w.alloc (.cells cs T)) w.heap.size T cs := heap_alloc_new _ _
theorem Box.alloc {w : World} {g : Nat} {T : TypeId} {cs : Array Value} (h : Box w g T cs) (o : Obj) : Box (w.alloc o) g T cs := (heap_alloc_old _ _ h.lt).trans h
theorem Box.drew {w : World} {g : Nat} {T : TypeId} {cs : Array Value} (h : Box w g T cs) : Box w.drew g T cs := h
theorem Box.set {w : World} {g : Nat} {T : TypeId} {cs : Array Value} (h : Box w g T cs) (i : Nat) (v : Value) : Box (w.setCell ⟨g, i, none⟩ v) g T (cs.setIfInBounds i v) := heap_setCell_same _ _ _ _ _ _ h
theorem Box.far {w : World} {g : Nat} {T : TypeId} {cs : Array Value} (h : Box w g T cs) (a : Addr) (v : Value) (hne : g ≠ a.block) : Box (w.setCell a v) g T cs := (heap_setCell_other _ _ _ _ hne).trans h
theorem Box.cell {w : World} {g : Nat} {T : TypeId} {cs : Array Value} (h : Box w g T cs) (j : Nat) {v : Value} (hv : cs[j]? = some v) : w.cell? ⟨g, j, none⟩ = some v := (cell_of_row w g j cs T _ h).trans hv
theorem Box.frozen {w : World} {g : Nat} {T : TypeId} {cs : Array Value} (h : Box w g T cs) (j : Nat) : w.frozen? ⟨g, j, none⟩ = false := frozen_of_row w g j cs T h

/-- what is left of a world behind a store into block g -/
structure Stored (w w' : World) (g : Nat) : Prop where
  other : ∀ k, k ≠ g → w'.heap[k]? = w.heap[k]?
  size : w'.heap.size = w.heap.size
  below : ∀ (B : Nat) (W : World), B ≤ g → Below B W w → Below B W w'

theorem Stored.refl (w : World) (g : Nat) : Stored w w g := ⟨fun _ _ => rfl, rfl, fun _ _ _ h => h⟩
theorem Stored.setCell {w w' : World} {g : Nat} (h : Stored w w' g) (i : Nat) (v : Value) : Stored w (w'.setCell ⟨g, i, none⟩ v) g :=
  ⟨fun k hk => (heap_setCell_other _ _ _ _ hk).trans (h.other k hk), by simp [h.size], fun B W hB hb => (h.below B W hB hb).setCell hB _⟩
theorem Stored.box {w w' : World} {g k : Nat} {T : TypeId} {cs : Array Value} (h : Stored w w' g) (hb : Box w k T cs) (hk : k ≠ g) : Box w' k T cs := (h.other k hk).trans hb

theorem setCells_box (g : Nat) (T : TypeId) : ∀ (vs : List Value) (o : Nat) (w : World) (pre : List Value) (post : List Value), pre.length = o → post.length = vs.length → Box w g T (pre ++ post).toArray →
    Box (w.setCells g o vs) g T (pre ++ vs).toArray ∧ Stored w (w.setCells g o vs) g
  | [], o, w, pre, post, _, hl, h => by
    have : post = [] := List.eq_nil_of_length_eq_zero hl
    subst this
    exact ⟨h, Stored.refl _ _⟩
  | v :: vs, o, w, pre, [], _, hl, _ => by cases hl
  | v :: vs, o, w, pre, p :: post, hp, hl, h => by
    have h1 := h.set o v
    have e : (pre ++ p :: post).toArray.setIfInBounds o v = ((pre ++ [v]) ++ post).toArray := by
      subst hp
      simp
    rw [e] at h1
    have h2 := setCells_box g T vs (o + 1) (w.setCell ⟨g, o, none⟩ v) (pre ++ [v]) post (by simp [hp]) (by simpa using hl) h1
    refine ⟨by simpa [World.setCells] using h2.1, ?_⟩
    have h3 := (Stored.refl w g).setCell o v
    exact ⟨fun k hk => (h2.2.other k hk).trans (h3.other k hk), h2.2.size.trans h3.size, fun B W hB hb => h2.2.below B W hB (h3.below B W hB hb)⟩

theorem box_there {w : World} {g : Nat} {T : TypeId} {cs : Array Value} (h : Box w g T cs) : w.there g 0 cs.size := fun j hj => by
  rw [Nat.zero_add]
  exact ⟨by rw [cell_of_row w g j cs T _ h]; simp [hj], h.frozen j⟩

variable {P : Program} {ops : Array Oper}

theorem run_load_box {o : Oper} {a : Act} {w : World} {ty : TypeId} {x : Operand} (ho : o.op = .load ty x)
    {g : Nat} {T : TypeId} {cs : Array Value} (hg : Box w g T cs) (hx : a.eval x = .pointer (some ⟨g, 0, none⟩)) {d : TypeDesc}
    (hu : P.underlying ty = some d) (hd : (match d with | .struct _ | .array _ _ => true | _ => false) = true) (hi : (P.info? ty).map (·.size) = some cs.size) : (execOp a.eval o).run P w = .ok (.value (.agg cs)) w := by
  unfold execOp
  simp only [ho, hx, Instr.loadAt, Instr.sureAddr, Sem.run_bind, Sem.run_pure, Result.andThen_ok, run_loadVar_row w g T ty cs (0, 0) d hg hu hd hi]

theorem wpList_want {rest : List Oper} {o : Oper} {a : Act} {w : World} {Q : Exit → Act → World → Prop} (hgd : Region.wanted o (yielded ops a.tmps) = true)
    (h : ∀ K : Act → World → Prop, (∀ a w, wpList P ops Q rest a w → K a w) → o.wp P a w K Q) : wpList P ops Q (o :: rest) a w :=
  wpList_step fun K hK => by rw [if_pos hgd]; exact h K hK

theorem wpList_load_box {rest : List Oper} {o : Oper} {a : Act} {w : World} {Q : Exit → Act → World → Prop} (hgd : Region.wanted o (yielded ops a.tmps) = true) (ty : TypeId) (x : Operand) (ho : o.op = .load ty x)
    {g : Nat} {T : TypeId} {cs : Array Value} (hg : Box w g T cs) (hx : a.eval x = .pointer (some ⟨g, 0, none⟩)) {d : TypeDesc}
    (hu : P.underlying ty = some d) (hd : (match d with | .struct _ | .array _ _ => true | _ => false) = true) (hi : (P.info? ty).map (·.size) = some cs.size)
    (h : wpList P ops Q rest (a.put o.dst (.agg cs)) w) : wpList P ops Q (o :: rest) a w :=
  wpList_want hgd fun _ hK => wp_load_row ty x ho g hx T cs (0, 0) d hg hu hd hi (hK _ _ h)

theorem wpList_store_box {rest : List Oper} {o : Oper} {a : Act} {w : World} {Q : Exit → Act → World → Prop} (hgd : Region.wanted o (yielded ops a.tmps) = true) (ty : TypeId) (x y : Operand) (ho : o.op = .store ty x y)
    {g : Nat} {T : TypeId} {old cells : Array Value} (hg : Box w g T old) (hx : a.eval x = .pointer (some ⟨g, 0, none⟩)) (hy : a.eval y = .agg cells) (hsz : old.size = cells.size)
    (hi : (P.info? ty).map (·.size) = some cells.size) (h1 : cells.all (·.oneCell') = true)
    (h : ∀ w', Box w' g T cells → Stored w w' g → wpList P ops Q rest (a.put o.dst undef) w') : wpList P ops Q (o :: rest) a w := by
  have hs := setCells_box g T cells.toList 0 w [] old.toList rfl (by simpa using hsz) (by simpa using hg)
  exact wpList_want hgd fun _ hK => wp_store_mid ty x y ho g 0 cells hx hy (hsz ▸ box_there hg) hi h1 (hK _ _ (h _ (by simpa using hs.1) hs.2))

theorem wp_store_box {o : Oper} {a : Act} {w : World} {K : Act → World → Prop} {Q : Exit → Act → World → Prop} (ty : TypeId) (x y : Operand) (ho : o.op = .store ty x y)
    {g : Nat} {T : TypeId} {old cells : Array Value} (hg : Box w g T old) (hx : a.eval x = .pointer (some ⟨g, 0, none⟩)) (hy : a.eval y = .agg cells) (hsz : old.size = cells.size)
    (hi : (P.info? ty).map (·.size) = some cells.size) (h1 : cells.all (·.oneCell') = true)
    (h : ∀ w', Box w' g T cells → Stored w w' g → K (a.put o.dst undef) w') : o.wp P a w K Q := by
  have hs := setCells_box g T cells.toList 0 w [] old.toList rfl (by simpa using hsz) (by simpa using hg)
  exact wp_store_mid ty x y ho g 0 cells hx hy (hsz ▸ box_there hg) hi h1 (h _ (by simpa using hs.1) hs.2)

theorem op_of_drop {i : Nat} {oi : Oper} {tl : List Oper} (hi : ops.toList.drop i = oi :: tl) : ops[i]? = some oi := by
  have h : (ops.toList.drop i)[0]? = some oi := by rw [hi]; rfl
  simpa using h

/-- in a region that draws its order: an operation that yields its value in each world of the class, taken first -/
theorem wpH_take {S : World → Prop} {Q : Exit → Act → World → Prop} {md : Region.Mode} (i : Nat) {oi : Oper} {tl : List Oper} {fuel : Nat} {listed : Array Bool} {a : Act} {w : World} (hi : ops.toList.drop i = oi :: tl)
    (hs : Region.noSelect ops = true) (hf : Region.free md ops listed i = true) (hr : (Region.ready md ops listed).contains i = true) (hgd : Region.wanted oi (yielded ops a.tmps) = true)
    (hQ : ∀ c a w v, Q (.panic c) (a.put oi.dst v) w → Q (.panic c) a w) (v : Value) (hy : ∀ w, S w → (execOp a.eval oi).run P w = .ok (.value v) w) (hS : S w)
    (h : wpAnyH P md ops Q S fuel (listed.setIfInBounds i true) (a.put oi.dst v) w) : wpAnyH P md ops Q S (fuel + 1) listed a w :=
  wpAnyH_take (op_of_drop hi) hs hf hr (fun c a w => hQ c a w v) (.inl ⟨hgd, hy⟩) hS h

/-- .. one whose guard shuts it out -/
theorem wpH_skip {S : World → Prop} {Q : Exit → Act → World → Prop} {md : Region.Mode} (i : Nat) {oi : Oper} {tl : List Oper} {fuel : Nat} {listed : Array Bool} {a : Act} {w : World} (hi : ops.toList.drop i = oi :: tl)
    (hs : Region.noSelect ops = true) (hf : Region.free md ops listed i = true) (hr : (Region.ready md ops listed).contains i = true) (hgd : Region.wanted oi (yielded ops a.tmps) = false)
    (hQ : ∀ c a w v, Q (.panic c) (a.put oi.dst v) w → Q (.panic c) a w) (hS : S w)
    (h : wpAnyH P md ops Q S fuel (listed.setIfInBounds i true) (a.put oi.dst undef) w) : wpAnyH P md ops Q S (fuel + 1) listed a w :=
  wpAnyH_take (op_of_drop hi) hs hf hr (fun c a w => hQ c a w undef) (.inr ⟨hgd, rfl⟩) hS h

/-- the one operation that may come up comes up -/
theorem wpH_one {S : World → Prop} {Q : Exit → Act → World → Prop} {md : Region.Mode} (i : Nat) {oi : Oper} {tl : List Oper} {fuel : Nat} {listed : Array Bool} {a : Act} {w : World} (hi : ops.toList.drop i = oi :: tl)
    (hr : Region.ready md ops listed = [i]) (hgd : Region.wanted oi (yielded ops a.tmps) = true) (h : oi.wp P a w (fun a' w' => S w' ∧ wpAnyH P md ops Q S fuel (listed.setIfInBounds i true) a' w') Q) : wpAnyH P md ops Q S (fuel + 1) listed a w :=
  wpAnyH_all hr (by simp) (fun j hj => by
    obtain rfl : j = i := by simpa using hj
    exact wpOp_step (op_of_drop hi) (fun K' hK => by
      rw [if_pos hgd]
      exact Oper.wp_mono hK h))

/-- the same, a store of a whole array or struct -/
theorem wpH_store_box {S : World → Prop} {Q : Exit → Act → World → Prop} {md : Region.Mode} (i : Nat) {oi : Oper} {tl : List Oper} {fuel : Nat} {listed : Array Bool} {a : Act} {w : World} (hi : ops.toList.drop i = oi :: tl)
    (hr : Region.ready md ops listed = [i]) (hgd : Region.wanted oi (yielded ops a.tmps) = true) (ty : TypeId) (x y : Operand) (ho : oi.op = .store ty x y)
    {g : Nat} {T : TypeId} {old cells : Array Value} (hg : Box w g T old) (hx : a.eval x = .pointer (some ⟨g, 0, none⟩)) (hy : a.eval y = .agg cells) (hsz : old.size = cells.size)
    (hi' : (P.info? ty).map (·.size) = some cells.size) (h1 : cells.all (·.oneCell') = true)
    (h : ∀ w', Box w' g T cells → Stored w w' g → S w' ∧ wpAnyH P md ops Q S fuel (listed.setIfInBounds i true) (a.put oi.dst undef) w') : wpAnyH P md ops Q S (fuel + 1) listed a w :=
  wpH_one i hi hr hgd (wp_store_box ty x y ho hg hx hy hsz hi' h1 h)

theorem wpList_value {rest : List Oper} {o : Oper} {a : Act} {w : World} {Q : Exit → Act → World → Prop} (hgd : Region.wanted o (yielded ops a.tmps) = true) (v : Value)
    (hr : (execOp a.eval o).run P w = .ok (.value v) w) (h : wpList P ops Q rest (a.put o.dst v) w) : wpList P ops Q (o :: rest) a w :=
  wpList_want hgd fun _ hK => by
    unfold Oper.wp
    rw [hr]
    exact hK _ _ h

theorem wpList_enter {rest : List Oper} {o : Oper} {a : Act} {w : World} {Q : Exit → Act → World → Prop} (hgd : Region.wanted o (yielded ops a.tmps) = true) (f : FuncId) (args : Array Value)
    (hr : (execOp a.eval o).run P w = .ok (.enter f args) w) (v : Value) (R : World → Prop) (hc : Calls P f args w fun e w' => e = .returned v ∧ R w')
    (h : ∀ w', R w' → wpList P ops Q rest (a.put o.dst v) w') : wpList P ops Q (o :: rest) a w :=
  wpList_want hgd fun _ hK => by
    unfold Oper.wp
    rw [hr]
    refine hc.mono fun e w' he => ?_
    obtain ⟨rfl, hw⟩ := he
    exact hK _ _ (h w' hw)

theorem wpList_alloc_box {rest : List Oper} {o : Oper} {a : Act} {w : World} {Q : Exit → Act → World → Prop} (hgd : Region.wanted o (yielded ops a.tmps) = true) (ty : TypeId) (ho : o.op = .alloc ty) (cells : Array Value)
    (hr : ∀ w, (Instr.alloc ty true (.tuple #[])).run P w = .ok (.pointer (some ⟨w.heap.size, 0, none⟩)) (w.alloc (.cells cells ty)))
    (h : wpList P ops Q rest (a.put o.dst (.pointer (some ⟨w.heap.size, 0, none⟩))) (w.alloc (.cells cells ty))) : wpList P ops Q (o :: rest) a w :=
  wpList_want hgd fun _ hK => by
    unfold Oper.wp execOp
    simp only [ho, Sem.run_bind, Sem.run_pure, Result.andThen_ok, hr]
    exact hK _ _ h

theorem wpQ_load_box {W : World} {B : Nat} {Q : Act → Prop} {a : Act} {o : Oper} {rest : List Oper} (hgd : Region.wanted o (yielded ops a.tmps) = true) (ty : TypeId) (x : Operand) (ho : o.op = .load ty x)
    {g : Nat} {T : TypeId} {cs : Array Value} (hg : Box W g T cs) (hx : a.eval x = .pointer (some ⟨g, 0, none⟩)) (hgB : g < B) {d : TypeDesc}
    (hu : P.underlying ty = some d) (hd : (match d with | .struct _ | .array _ _ => true | _ => false) = true) (hi : (P.info? ty).map (·.size) = some cs.size)
    (h : wpQuiet P ops (fun w' => Below B W w') Q rest (a.put o.dst (.agg cs))) : wpQuiet P ops (fun w' => Below B W w') Q (o :: rest) a :=
  wpQ_load_row hgd ty x ho g hx T cs (0, 0) d hg hgB hu hd hi h

theorem box_result {fn : Func} {p : Tmp} {ty : TypeId} (h : fn.results = #[.cell p ty]) (tmps : Array Value) (w : World) {g : Nat} {T : TypeId} {cs : Array Value} {d : TypeDesc}
    (hp : tmps.getD p undef = .pointer (some ⟨g, 0, none⟩)) (hg : Box w g T cs) (hu : P.underlying ty = some d) (hd : (match d with | .struct _ | .array _ _ => true | _ => false) = true) (hi : (P.info? ty).map (·.size) = some cs.size) :
    (results fn tmps).run P w = .ok (.agg cs) w :=
  results_cell_row h tmps w g T cs (0, 0) d hp hg hu hd hi
theorem box_result2 {fn : Func} {p q : Tmp} {ty : TypeId} (h : fn.results = #[.cell p ty, .tmp q]) (tmps : Array Value) (w : World) {g : Nat} {T : TypeId} {cs : Array Value} {d : TypeDesc}
    (hp : tmps.getD p undef = .pointer (some ⟨g, 0, none⟩)) (hg : Box w g T cs) (hu : P.underlying ty = some d) (hd : (match d with | .struct _ | .array _ _ => true | _ => false) = true) (hi : (P.info? ty).map (·.size) = some cs.size) :
    (results fn tmps).run P w = .ok (.tuple #[.agg cs, tmps.getD q undef]) w := by
  have hp' : tmps[p]?.getD undef = .pointer (some ⟨g, 0, none⟩) := by simpa using hp
  simp [results, h, hp', asAddr, run_loadVar_row w g T ty cs (0, 0) d hg hu hd hi]
theorem box_result3 {fn : Func} {p q r : Tmp} {ty ty' : TypeId} (h : fn.results = #[.cell p ty, .cell q ty', .tmp r]) (tmps : Array Value) (w : World) {g g' : Nat} {T T' : TypeId} {cs cs' : Array Value} {d d' : TypeDesc}
    (hp : tmps.getD p undef = .pointer (some ⟨g, 0, none⟩)) (hg : Box w g T cs) (hu : P.underlying ty = some d) (hd : (match d with | .struct _ | .array _ _ => true | _ => false) = true) (hi : (P.info? ty).map (·.size) = some cs.size)
    (hp' : tmps.getD q undef = .pointer (some ⟨g', 0, none⟩)) (hg' : Box w g' T' cs') (hu' : P.underlying ty' = some d') (hd' : (match d' with | .struct _ | .array _ _ => true | _ => false) = true) (hi' : (P.info? ty').map (·.size) = some cs'.size) :
    (results fn tmps).run P w = .ok (.tuple #[.agg cs, .agg cs', tmps.getD r undef]) w := by
  have h1 : tmps[p]?.getD undef = .pointer (some ⟨g, 0, none⟩) := by simpa using hp
  have h2 : tmps[q]?.getD undef = .pointer (some ⟨g', 0, none⟩) := by simpa using hp'
  simp [results, h, h1, h2, asAddr, run_loadVar_row w g T ty cs (0, 0) d hg hu hd hi, run_loadVar_row w g' T' ty' cs' (0, 0) d' hg' hu' hd' hi']
end Go.Proofs.YthmigigclmogiaaDoor
namespace Go.Proofs.YthmigigclmogiaaDoor
open Go.RowKit

/-- what the frame tells of a slice of integers that came in -/
def IsRow (k : IntKind) (w : World) (a : Option Addr) (len cap : Nat) (zs : List Int) : Prop :=
  (a = none ∧ len = 0 ∧ cap = 0 ∧ zs = []) ∨
  ∃ x, a = some x ∧ len ≤ cap ∧ cap ≤ maxLen ∧ zs.length = cap ∧ (∀ i, i < zs.length → w.cell? (x.add i) = some (.int k (zs.getD i 0))) ∧ ∀ n ∈ zs, (Lit.int k n).wf = true

/-- A slice of bytes that reads as the list l. -/
def Sl (w : World) (a : Option Addr) (len cap : Nat) (l : List UInt8) : Prop :=
  len = l.length ∧ len ≤ cap ∧ cap ≤ maxLen ∧ (a = none → cap = 0) ∧ (len = 0 ∨ ∃ b o, a = some ⟨b, o, none⟩ ∧ ∀ i, i < len → w.cell? ⟨b, o + i, none⟩ = some (.int .u8 ((l.getD i 0).toNat : Int)))

theorem Sl.mk' {w : World} {a : Option Addr} {len cap : Nat} {l : List UInt8} (h1 : len = l.length) (h2 : len ≤ cap) (h3 : cap ≤ maxLen) (h5 : a = none → cap = 0)
    (h4 : len = 0 ∨ ∃ b o, a = some ⟨b, o, none⟩ ∧ ∀ i, i < len → w.cell? ⟨b, o + i, none⟩ = some (.int .u8 ((l.getD i 0).toNat : Int))) : Sl w a len cap l := ⟨h1, h2, h3, h5, h4⟩

theorem Sl.below {w w' : World} {a : Option Addr} {len cap : Nat} {l : List UInt8} {B : Nat} (h : Sl w a len cap l) (hb : Below B w w')
    (hB : ∀ b o, len ≠ 0 → a = some ⟨b, o, none⟩ → b < B) : Sl w' a len cap l := by
  obtain ⟨h1, h2, h3, h5, h4⟩ := h
  refine ⟨h1, h2, h3, h5, ?_⟩
  rcases h4 with h4 | ⟨b, o, rfl, h4⟩
  · exact .inl h4
  · by_cases h0 : len = 0
    · exact .inl h0
    · exact .inr ⟨b, o, rfl, fun i hi => (hb.cell (hB b o h0 rfl)).trans (h4 i hi)⟩

theorem cell_lt {w : World} {b o : Nat} {v : Value} (h : w.cell? ⟨b, o, none⟩ = some v) : b < w.heap.size := by
  rcases Nat.lt_or_ge b w.heap.size with h' | h'
  · exact h'
  · simp [World.cell?, Array.getElem?_eq_none h'] at h

theorem Sl.lt {w : World} {a : Option Addr} {len cap : Nat} {l : List UInt8} (h : Sl w a len cap l) : ∀ b o, len ≠ 0 → a = some ⟨b, o, none⟩ → b < w.heap.size := by
  obtain ⟨h1, h2, h3, h5, h4⟩ := h
  intro b o h0 ha
  rcases h4 with h4 | ⟨b', o', rfl, h4⟩
  · exact absurd h4 h0
  · obtain ⟨rfl, rfl⟩ : b' = b ∧ o' = o := by simpa using ha
    exact cell_lt (h4 0 (by omega))

/-- What lay in old memory reads as before. -/
theorem Sl.after {w w' : World} {a : Option Addr} {len cap : Nat} {l : List UInt8} (h : Sl w a len cap l) (hb : Below w.heap.size w w') : Sl w' a len cap l := h.below hb h.lt

theorem Sl.drop {w : World} {b o len cap : Nat} {l : List UInt8} (n : Nat) (h : Sl w (some ⟨b, o, none⟩) len cap l) (hn : n ≤ len) :
    Sl w (if cap = n then some ⟨b, o, none⟩ else some ⟨b, o + n, none⟩) (len - n) (cap - n) (l.drop n) := by
  obtain ⟨h1, h2, h3, h5, h4⟩ := h
  refine ⟨by simp [h1], by omega, by omega, (by intro h; split at h <;> cases h), ?_⟩
  by_cases h0 : len - n = 0
  · exact .inl h0
  · right
    rcases h4 with h4 | ⟨b', o', e, h4⟩
    · omega
    · obtain ⟨rfl, rfl⟩ : b = b' ∧ o = o' := by simpa using e
      refine ⟨b, o + n, by rw [if_neg (by omega)], fun i hi => ?_⟩
      rw [Nat.add_assoc, h4 (n + i) (by omega)]
      simp [List.getD_eq_getElem?_getD, List.getElem?_drop]

theorem Sl.take {w : World} {a : Option Addr} {len cap : Nat} {l : List UInt8} (n : Nat) (h : Sl w a len cap l) (hn : n ≤ len) :
    Sl w a n cap (l.take n) := by
  obtain ⟨h1, h2, h3, h5, h4⟩ := h
  refine ⟨by simp; omega, by omega, h3, h5, ?_⟩
  by_cases h0 : n = 0
  · exact .inl h0
  · right
    rcases h4 with h4 | ⟨b', o', e, h4⟩
    · omega
    · refine ⟨b', o', e, fun i hi => ?_⟩
      rw [h4 i (by omega)]
      simp [List.getD_eq_getElem?_getD, hi]

/-- What the frame tells of a slice of bytes is that it reads as a list. -/
theorem IsRow.sl {w : World} {a : Option Addr} {len cap : Nat} {zs : List Int} (h : IsRow .u8 w a len cap zs) : ∃ l, Sl w a len cap l := by
  rcases h with ⟨rfl, rfl, rfl, rfl⟩ | ⟨x, rfl, h1, h2, h3, h4, h5⟩
  · exact ⟨[], rfl, Nat.le_refl _, Nat.zero_le _, fun _ => rfl, .inl rfl⟩
  · refine ⟨(zs.take len).map fun n => UInt8.ofNat n.toNat, by simp; omega, h1, h2, (fun h => by cases h), ?_⟩
    by_cases h0 : len = 0
    · exact .inl h0
    · right
      obtain ⟨b, o, spot⟩ := x
      have hc := h4 0 (by omega)
      have hspot : spot = none := by simpa [Addr.add] using World.cell?_spot hc
      subst hspot
      refine ⟨b, o, rfl, fun i hi => ?_⟩
      have hc := h4 i (by omega)
      replace hc := (congrArg w.cell? (Addr.add_lit b o i)).symm.trans hc
      rw [hc]
      have hlt : i < zs.length := by omega
      obtain ⟨z, hz⟩ : ∃ z, z = zs.getD i 0 := ⟨_, rfl⟩
      have hwf := h5 z (by rw [hz]; simp [List.getD_eq_getElem?_getD, hlt])
      rw [← hz]
      have hbd : 0 ≤ z ∧ z < 256 := by
        simp [Lit.wf, IntKind.min, IntKind.max, IntKind.bits, IntKind.signed] at hwf
        omega
      have e : ((zs.take len).map fun n => UInt8.ofNat n.toNat).getD i 0 = UInt8.ofNat z.toNat := by
        rw [hz]
        simp [List.getD_eq_getElem?_getD, hi, hlt]
      rw [e]
      congr 2
      simp
      omega

/-- A row that the call itself owns, as a slice that reads. -/
theorem Sl.ofOwns {w : World} {B e n : Nat} {v : Value} {l : List UInt8} (h : w.ownsRow B e 1 v n (Lib.byteCells l)) : ∃ a cap, v = .slice a n cap ∧ Sl w a n cap l := by
  have hl : l.length = n := by have := h.1; simpa [Lib.byteCells] using this
  rcases h.2 with ⟨rfl, rfl⟩ | ⟨g, cap, cur, rfl, hg, hb, hn, hm, hs, ht⟩
  · exact ⟨none, 0, rfl, hl.symm, Nat.le_refl _, Nat.zero_le _, fun _ => rfl, .inl rfl⟩
  · refine ⟨some ⟨g, 0, none⟩, cap, rfl, hl.symm, hn, hm, (fun h => by cases h), .inr ⟨g, 0, rfl, fun i hi => ?_⟩⟩
    have := h.cellAt i (by simpa using hi)
    rw [Nat.zero_add, this]
    simp [Lib.byteCells, List.getD_eq_getElem?_getD, show i < l.length by omega]

theorem byteCells_append (a b : List UInt8) : Lib.byteCells a ++ Lib.byteCells b = Lib.byteCells (a ++ b) := by simp [Lib.byteCells]
theorem byteCells_length (a : List UInt8) : (Lib.byteCells a).length = a.length := by simp [Lib.byteCells]

/-- 'append(out, x...)': out the call's own, x a slice of bytes that reads as l2, nil or empty too. -/
theorem wp_append_sl {P : Program} {w : World} {o : Oper} {a : Act} {K : Act → World → Prop} {Q : Exit → Act → World → Prop} (s x : Operand) (t : TypeId)
    (ho : o.op = .call { callee := .builtin .append, args := #[s, x], argTypes := #[t, t] })
    (base : Nat) (e : TypeId) (i : TypeInfo) (ht : P.underlying t = some (.slice e)) (hi : P.info? e = some i) (hz : i.zero = some (.int .u8 0)) (hsize : i.size = 1) (hby : i.bytes = 1)
    (v : Value) (n : Nat) (l : List UInt8) (hs : a.eval s = v) (hown : w.ownsRow base e 1 v n (Lib.byteCells l))
    (ax : Option Addr) (m c : Nat) (l2 : List UInt8) (hx : a.eval x = .slice ax m c) (hsl : Sl w ax m c l2)
    (hbytes : n + m ≤ 140737488355328) (hbase : base ≤ w.heap.size)
    (h : ∀ v' w', w'.ownsRow base e 1 v' (n + m) (Lib.byteCells (l ++ l2)) → w.grownBy w' v.ownBlock → K (a.put o.dst v') w') : o.wp P a w K Q := by
  obtain ⟨h1, h2, h3, h5, h4⟩ := hsl
  cases ax with
  | none =>
    have hc := h5 rfl
    subst hc
    obtain rfl : m = 0 := by omega
    have hl2 : l2 = [] := List.eq_nil_of_length_eq_zero h1.symm
    subst hl2
    have hrun := run_append_owned_none (P := P) (w := w) base t o.type e i 1 ht hi v n _ hown
    unfold Oper.wp
    simp [execOp, ho, resolve, invoke, builtin, hs, hx, hrun, Result.andThen]
    exact h v w (by simpa using hown) (World.grownBy.refl w _)
  | some ad =>
    refine wp_append_own w s x t ho base e i (.int .u8 0) 1 1 ht hi hz hsize hby rfl (by decide) v n _ hs hown ad m c (Lib.byteCells l2) hx (by simp [Lib.byteCells, h1]) ?_ ?_ (by unfold maxLen; omega) (by omega) hbase ?_
    · intro j u hj
      rcases h4 with h4 | ⟨b, o', e', h4⟩
      · have hl2 : l2 = [] := List.eq_nil_of_length_eq_zero (by omega)
        subst hl2
        simp [Lib.byteCells] at hj
      · obtain rfl := Option.some.inj e'
        have hlt : j < l2.length := by
          rcases Nat.lt_or_ge j l2.length with h' | h'
          · exact h'
          · simp [Lib.byteCells, List.getElem?_eq_none h'] at hj
        simp [Lib.byteCells, hlt] at hj
        rw [Addr.add_lit, h4 j (by omega), ← hj]
        simp [List.getD_eq_getElem?_getD, hlt]
    · intro u hu
      obtain ⟨_, _, rfl⟩ := List.mem_map.1 hu
      rfl
    · intro v' w' ho' hg' _
      exact h v' w' (by rw [← byteCells_append]; exact ho') hg'

theorem wpList_append_sl {P : Program} {w : World} {ops : Array Oper} {rest : List Oper} {o : Oper} {a : Act} {Q : Exit → Act → World → Prop} (hgd : o.guard = none) (s x : Operand) (t : TypeId)
    (ho : o.op = .call { callee := .builtin .append, args := #[s, x], argTypes := #[t, t] })
    (base : Nat) (e : TypeId) (i : TypeInfo) (ht : P.underlying t = some (.slice e)) (hi : P.info? e = some i) (hz : i.zero = some (.int .u8 0)) (hsize : i.size = 1) (hby : i.bytes = 1)
    (v : Value) (n : Nat) (l : List UInt8) (hs : a.eval s = v) (hown : w.ownsRow base e 1 v n (Lib.byteCells l))
    (ax : Option Addr) (m c : Nat) (l2 : List UInt8) (hx : a.eval x = .slice ax m c) (hsl : Sl w ax m c l2)
    (hbytes : n + m ≤ 140737488355328) (hbase : base ≤ w.heap.size)
    (h : ∀ v' w', w'.ownsRow base e 1 v' (n + m) (Lib.byteCells (l ++ l2)) → w.grownBy w' v.ownBlock → wpList P ops Q rest (a.put o.dst v') w') : wpList P ops Q (o :: rest) a w :=
  wpList_plain hgd fun _ hK => wp_append_sl s x t ho base e i ht hi hz hsize hby v n l hs hown ax m c l2 hx hsl hbytes hbase fun v' w' h2 h3 => hK _ _ (h v' w' h2 h3)

/-- the same as a step of a region that draws its order -/
theorem step_append_sl {P : Program} {w : World} {ops : Array Oper} {o : Oper} {a : Act} {K : Act → World → Prop} {Q : Exit → Act → World → Prop} {E : Prop} (hgd : o.guard = none) (s x : Operand) (t : TypeId)
    (ho : o.op = .call { callee := .builtin .append, args := #[s, x], argTypes := #[t, t] })
    (base : Nat) (e : TypeId) (i : TypeInfo) (ht : P.underlying t = some (.slice e)) (hi : P.info? e = some i) (hz : i.zero = some (.int .u8 0)) (hsize : i.size = 1) (hby : i.bytes = 1)
    (v : Value) (n : Nat) (l : List UInt8) (hs : a.eval s = v) (hown : w.ownsRow base e 1 v n (Lib.byteCells l))
    (ax : Option Addr) (m c : Nat) (l2 : List UInt8) (hx : a.eval x = .slice ax m c) (hsl : Sl w ax m c l2)
    (hbytes : n + m ≤ 140737488355328) (hbase : base ≤ w.heap.size)
    (h : ∀ v' w', w'.ownsRow base e 1 v' (n + m) (Lib.byteCells (l ++ l2)) → w.grownBy w' v.ownBlock → K (a.put o.dst v') w') :
    if Region.wanted o (yielded ops a.tmps) = true then Oper.wp P o a w K Q else E := by
  have hw : Region.wanted o (yielded ops a.tmps) = true := by simp [Region.wanted, hgd]
  rw [if_pos hw]
  exact wp_append_sl s x t ho base e i ht hi hz hsize hby v n l hs hown ax m c l2 hx hsl hbytes hbase h
end Go.Proofs.YthmigigclmogiaaDoor
namespace Go.Proofs.YthmigigclmogiaaDoor
open Go.RowKit

theorem foldl_push (l : List UInt8) : ∀ s : ByteArray, (l.map fun c => (c.toNat : Int)).foldl (fun r n => r.push (UInt8.ofNat n.toNat)) s = ⟨s.data ++ l.toArray⟩ := by
  induction l with
  | nil => intro s; simp
  | cons a t ih =>
    intro s
    simp only [List.map_cons, List.foldl_cons]
    rw [ih]
    apply ByteArray.ext
    show (s.data.push (UInt8.ofNat ((a.toNat : Int).toNat))) ++ t.toArray = s.data ++ (a :: t).toArray
    simp [UInt8.ofNat_toNat]

/-- 'string(b)' -/
theorem conv_sl {w : World} {a : Option Addr} {len cap : Nat} {l : List UInt8} (h : Sl w a len cap l) :
    (convert 22 9 (.slice a len cap)).run Tryd.prog w = .ok (.string ⟨l.toArray⟩) w := by
  rw [run_convert_bytes_string w 22 9 5 a len cap Tryd.underlying22 Tryd.underlying5 Tryd.underlying9]
  obtain ⟨h1, h2, h3, h5, h4⟩ := h
  cases a with
  | none =>
    have hc := h5 rfl
    have : l = [] := List.eq_nil_of_length_eq_zero (by omega)
    subst this
    rfl
  | some ad =>
    rw [run_bytesToString w ad len cap (l.map fun c => (c.toNat : Int))]
    · rw [foldl_push]; simp [ByteArray.empty, ByteArray.emptyWithCapacity]; rfl
    · have hh := run_loadCells_list (P := Tryd.prog) (w := w) ad (l.map fun c => Value.int .u8 (c.toNat : Int)) ?_
      · rw [show ((l.map fun c => (c.toNat : Int)).map (Value.int .u8)) = l.map fun c => Value.int .u8 (c.toNat : Int) by simp]
        rw [← hh, h1]; simp
      · intro j v hj
        rcases h4 with h4 | ⟨b, o, e, h4⟩
        · have : l = [] := List.eq_nil_of_length_eq_zero (by omega)
          subst this
          simp at hj
        · obtain rfl := Option.some.inj e
          have hlt : j < l.length := by
            rcases Nat.lt_or_ge j l.length with h' | h'
            · exact h'
            · simp [List.getElem?_eq_none h'] at hj
          simp [hlt] at hj
          rw [Addr.add_lit, h4 j (by omega), ← hj]
          simp [List.getD_eq_getElem?_getD, hlt]

/-- A block of bytes, known whole: its first cells are the list; its row may be written. -/
def Blk (w : World) (g : Nat) (l : List UInt8) : Prop :=
  ∃ cur fr, w.heap[g]? = some (.cells cur 5 fr) ∧ (fr = (0, 0) ∨ fr = (cur.size, cur.size + 1)) ∧ l.length ≤ cur.size ∧ cur.size ≤ maxLen ∧ ∀ j, j < l.length → cur[j]? = some (.int .u8 ((l.getD j 0).toNat : Int))

theorem Blk.cell {w : World} {g : Nat} {l : List UInt8} (h : Blk w g l) (j : Nat) (hj : j < l.length) : w.cell? ⟨g, j, none⟩ = some (.int .u8 ((l.getD j 0).toNat : Int)) := by
  obtain ⟨cur, fr, hb, _, _, _, hc⟩ := h
  simp only [World.cell?, hb]
  simpa using hc j hj

theorem Blk.frozen {w : World} {g : Nat} {l : List UInt8} (h : Blk w g l) (j : Nat) (hj : j < l.length) : w.frozen? ⟨g, j, none⟩ = false := by
  obtain ⟨cur, fr, hb, hf, hl, _, hc⟩ := h
  simp only [World.frozen?, hb]
  rcases hf with rfl | rfl <;> simp <;> omega

theorem Blk.lt {w : World} {g : Nat} {l : List UInt8} (h : Blk w g l) : g < w.heap.size := by
  obtain ⟨cur, fr, hb, _⟩ := h
  rcases Nat.lt_or_ge g w.heap.size with h' | h'
  · exact h'
  · simp [Array.getElem?_eq_none h'] at hb

theorem Blk.set {w : World} {g : Nat} {l : List UInt8} (h : Blk w g l) (j : Nat) (c : UInt8) (hj : j < l.length) : Blk (w.setCell ⟨g, j, none⟩ (.int .u8 (c.toNat : Int))) g (l.set j c) := by
  obtain ⟨cur, fr, hb, hf, hl, hm, hc⟩ := h
  refine ⟨cur.setIfInBounds j (.int .u8 (c.toNat : Int)), fr, ?_, by simpa using hf, by simpa using hl, by simpa using hm, ?_⟩
  · simp [World.setCell, Array.getElem?_modify, hb]
  · intro i hi
    simp only [List.length_set] at hi
    by_cases e : j = i
    · subst e
      simp [List.getD_eq_getElem?_getD, hi, show j < cur.size by omega]
    · have := hc i hi
      simp only [List.getD_eq_getElem?_getD] at this ⊢
      rw [Array.getElem?_setIfInBounds_ne e, this, List.getElem?_set_ne e]

theorem Blk.below {w w' : World} {g : Nat} {l : List UInt8} (h : Blk w g l) {B : Nat} (hb : Below B w w') (hg : g < B) : Blk w' g l := by
  obtain ⟨cur, fr, h1, h2⟩ := h
  exact ⟨cur, fr, (hb.block g hg).trans h1, h2⟩

theorem Blk.sl {w : World} {g : Nat} {l : List UInt8} (h : Blk w g l) (cap : Nat) (h1 : l.length ≤ cap) (h2 : cap ≤ maxLen) : Sl w (some ⟨g, 0, none⟩) l.length cap l := by
  refine ⟨rfl, h1, h2, (fun h => by cases h), .inr ⟨g, 0, rfl, fun i hi => ?_⟩⟩
  rw [Nat.zero_add]
  exact h.cell i hi

/-- '[]byte(s)' -/
theorem conv_str (w : World) (s : ByteArray) (hs : s.size ≤ 140737488355328) : ∃ c w', (convert 9 22 (.string s)).run Tryd.prog w = .ok (.slice (some ⟨w.heap.size, 0, none⟩) s.size c) w' ∧
    Blk w' w.heap.size s.data.toList ∧ s.size ≤ c ∧ c ≤ maxLen ∧ Below w.heap.size w w' := by
  refine ⟨_, _, Lib.run_convert_string_bytes w 9 22 5 s Tryd.underlying9 Tryd.underlying22 Tryd.underlying5, ?_, grownCap_ge _ _ _ _, grownCap_le_maxLen _ _ _ _ (by unfold maxLen; omega), ?_⟩
  · have hn := Lib.bytesWorld_at_new w 5 s
    have hsz : (Lib.bytesCells w 5 s).size = grownCap w s.size 0 5 := by
      have := grownCap_ge w s.size 0 5
      simp [Lib.bytesCells]
      have : s.data.size = s.size := rfl
      omega
    refine ⟨_, _, hn, .inr rfl, ?_, ?_, ?_⟩
    · rw [hsz]; simpa using grownCap_ge w s.size 0 5
    · rw [hsz]; exact grownCap_le_maxLen _ _ _ _ (by unfold maxLen; omega)
    · intro j hj
      have hj2 : j < s.size := by simpa using hj
      simp [Lib.bytesCells, Array.getElem?_append, hj2, List.getD_eq_getElem?_getD]
  · refine ⟨?_, ?_, ?_, ?_, ?_⟩
    · simp [Lib.bytesWorld, World.freeze, World.alloc, World.drew, -World.alloc_eq, -World.drew_eq]
    · simp [Lib.bytesWorld, World.freeze, World.alloc, World.drew, -World.alloc_eq, -World.drew_eq]
    · simp [Lib.bytesWorld, World.freeze, World.alloc, World.drew, -World.alloc_eq, -World.drew_eq]
    · simp [Lib.bytesWorld, World.freeze, World.alloc, World.drew, -World.alloc_eq, -World.drew_eq]
    · intro k hk; exact Lib.bytesWorld_at_old w 5 s k hk
end Go.Proofs.YthmigigclmogiaaDoor
namespace Go.Proofs.YthmigigclmogiaaDoor
open Go.RowKit

theorem infoU8 : (Tryd.prog.info? 5).map (fun i => (i.zero, i.size, i.bytes)) = some (some (.int .u8 0), 1, 1) := by kernel_rfl

theorem slTwo (w : World) (g : Nat) (c d : UInt8) (h : w.cell? ⟨g, 0, none⟩ = some (.int .u8 (c.toNat : Int))) (h' : w.cell? ⟨g, 1, none⟩ = some (.int .u8 (d.toNat : Int))) : Sl w (some ⟨g, 0, none⟩) 2 2 [c, d] := by
  refine ⟨rfl, Nat.le_refl _, by unfold maxLen; omega, (fun h => by cases h), .inr ⟨g, 0, rfl, fun i hi => ?_⟩⟩
  match i, hi with
  | 0, _ => simpa using h
  | 1, _ => simpa using h'
theorem cellTwo (w : World) (u v : Value) (g : Nat) (hg : g = w.heap.size) : (w.alloc (.cells #[u, v] 5)).cell? ⟨g, 0, none⟩ = some u ∧ (w.alloc (.cells #[u, v] 5)).cell? ⟨g, 1, none⟩ = some v := by
  subst hg
  constructor <;> (rw [World.cell?_alloc_mark]; rfl)
end Go.Proofs.YthmigigclmogiaaDoor
namespace Go.Proofs.YthmigigclmogiaaDoor
open Go.RowKit

variable {P : Program} {ops : Array Oper}

/-- the one operation that may come up yields a value, in another world -/
theorem wpH_run {S : World → Prop} {Q : Exit → Act → World → Prop} {md : Region.Mode} (i : Nat) {oi : Oper} {tl : List Oper} {fuel : Nat} {listed : Array Bool} {a : Act} {w : World} (hi : ops.toList.drop i = oi :: tl)
    (hr : Region.ready md ops listed = [i]) (hgd : Region.wanted oi (yielded ops a.tmps) = true) (v : Value) (w' : World) (hrun : (execOp a.eval oi).run P w = .ok (.value v) w')
    (hS : S w') (h : wpAnyH P md ops Q S fuel (listed.setIfInBounds i true) (a.put oi.dst v) w') : wpAnyH P md ops Q S (fuel + 1) listed a w :=
  wpH_one i hi hr hgd (by unfold Oper.wp; rw [hrun]; exact ⟨hS, h⟩)

/-- either of two may come up, each yields a value -/
theorem wpH_two_runs {S : World → Prop} {Q : Exit → Act → World → Prop} {md : Region.Mode} (i j : Nat) {oi oj : Oper} {tl tl' : List Oper} {fuel : Nat} {listed : Array Bool} {a : Act} {w : World} (hi : ops.toList.drop i = oi :: tl) (hj : ops.toList.drop j = oj :: tl')
    (hr : Region.ready md ops listed = [i, j]) (hgd : Region.wanted oi (yielded ops a.tmps) = true) (hgd' : Region.wanted oj (yielded ops a.tmps) = true)
    (v : Value) (w' : World) (hrun : (execOp a.eval oi).run P w = .ok (.value v) w') (hS : S w')
    (u : Value) (w'' : World) (hrun' : (execOp a.eval oj).run P w = .ok (.value u) w'') (hS' : S w'')
    (h : wpAnyH P md ops Q S fuel (listed.setIfInBounds i true) (a.put oi.dst v) w') (h' : wpAnyH P md ops Q S fuel (listed.setIfInBounds j true) (a.put oj.dst u) w'') : wpAnyH P md ops Q S (fuel + 1) listed a w :=
  wpAnyH_all hr (by simp) (fun k hk => by
    rcases List.mem_cons.1 hk with rfl | hk
    · exact wpOp_step (op_of_drop hi) (fun K' hK => by rw [if_pos hgd]; unfold Oper.wp; rw [hrun]; exact hK _ _ ⟨hS, h⟩)
    · obtain rfl : k = j := by simpa using hk
      exact wpOp_step (op_of_drop hj) (fun K' hK => by rw [if_pos hgd']; unfold Oper.wp; rw [hrun']; exact hK _ _ ⟨hS', h'⟩))

/-- either of two may come up: one yields a value, the other one stores a whole array or struct -/
theorem wpH_run_or_store {S : World → Prop} {Q : Exit → Act → World → Prop} {md : Region.Mode} (i j : Nat) {oi oj : Oper} {tl tl' : List Oper} {fuel : Nat} {listed : Array Bool} {a : Act} {w : World} (hi : ops.toList.drop i = oi :: tl) (hj : ops.toList.drop j = oj :: tl')
    (hr : Region.ready md ops listed = [i, j]) (hgd : Region.wanted oi (yielded ops a.tmps) = true) (hgd' : Region.wanted oj (yielded ops a.tmps) = true)
    (v : Value) (hrun : (execOp a.eval oi).run P w = .ok (.value v) w) (hS : S w)
    (ty : TypeId) (x y : Operand) (ho : oj.op = .store ty x y)
    {g : Nat} {T : TypeId} {old cells : Array Value} (hg : Box w g T old) (hx : a.eval x = .pointer (some ⟨g, 0, none⟩)) (hy : a.eval y = .agg cells) (hsz : old.size = cells.size)
    (hi' : (P.info? ty).map (·.size) = some cells.size) (h1 : cells.all (·.oneCell') = true)
    (h : wpAnyH P md ops Q S fuel (listed.setIfInBounds i true) (a.put oi.dst v) w)
    (h' : ∀ w', Box w' g T cells → Stored w w' g → S w' ∧ wpAnyH P md ops Q S fuel (listed.setIfInBounds j true) (a.put oj.dst undef) w') : wpAnyH P md ops Q S (fuel + 1) listed a w :=
  wpAnyH_all hr (by simp) (fun k hk => by
    rcases List.mem_cons.1 hk with rfl | hk
    · exact wpOp_step (op_of_drop hi) (fun K' hK => by rw [if_pos hgd]; unfold Oper.wp; rw [hrun]; exact hK _ _ ⟨hS, h⟩)
    · obtain rfl : k = j := by simpa using hk
      exact wpOp_step (op_of_drop hj) (fun K' hK => by
        rw [if_pos hgd']
        exact Oper.wp_mono hK (wp_store_box ty x y ho hg hx hy hsz hi' h1 h')))

/-- the one operation that may come up is a call -/
theorem wpH_enter {S : World → Prop} {Q : Exit → Act → World → Prop} {md : Region.Mode} (i : Nat) {oi : Oper} {tl : List Oper} {fuel : Nat} {listed : Array Bool} {a : Act} {w : World} (hi : ops.toList.drop i = oi :: tl)
    (hr : Region.ready md ops listed = [i]) (hgd : Region.wanted oi (yielded ops a.tmps) = true) (f : FuncId) (args : Array Value) (hrun : (execOp a.eval oi).run P w = .ok (.enter f args) w) (R : Ending → World → Prop) (hc : Calls P f args w R)
    (h : ∀ e w', R e w' → ∃ v, e = .returned v ∧ S w' ∧ wpAnyH P md ops Q S fuel (listed.setIfInBounds i true) (a.put oi.dst v) w') : wpAnyH P md ops Q S (fuel + 1) listed a w :=
  wpH_one i hi hr hgd (by
    unfold Oper.wp
    rw [hrun]
    refine hc.mono fun e w' he => ?_
    obtain ⟨v, rfl, hv⟩ := h e w' he
    exact hv)

theorem wpH_append_sl {S : World → Prop} {Q : Exit → Act → World → Prop} {md : Region.Mode} (i : Nat) {oi : Oper} {tl : List Oper} {fuel : Nat} {listed : Array Bool} {a : Act} {w : World} (hi : ops.toList.drop i = oi :: tl)
    (hr : Region.ready md ops listed = [i]) (hgd : Region.wanted oi (yielded ops a.tmps) = true) (s x : Operand) (t : TypeId)
    (ho : oi.op = .call { callee := .builtin .append, args := #[s, x], argTypes := #[t, t] })
    (base : Nat) (e : TypeId) (j : TypeInfo) (ht : P.underlying t = some (.slice e)) (hj : P.info? e = some j) (hz : j.zero = some (.int .u8 0)) (hsize : j.size = 1) (hby : j.bytes = 1)
    (v : Value) (n : Nat) (l : List UInt8) (hs : a.eval s = v) (hown : w.ownsRow base e 1 v n (Lib.byteCells l))
    (ax : Option Addr) (m c : Nat) (l2 : List UInt8) (hx : a.eval x = .slice ax m c) (hsl : Sl w ax m c l2)
    (hbytes : n + m ≤ 140737488355328) (hbase : base ≤ w.heap.size)
    (h : ∀ v' w', w'.ownsRow base e 1 v' (n + m) (Lib.byteCells (l ++ l2)) → w.grownBy w' v.ownBlock → S w' ∧ wpAnyH P md ops Q S fuel (listed.setIfInBounds i true) (a.put oi.dst v') w') : wpAnyH P md ops Q S (fuel + 1) listed a w :=
  wpH_one i hi hr hgd (wp_append_sl s x t ho base e j ht hj hz hsize hby v n l hs hown ax m c l2 hx hsl hbytes hbase h)
end Go.Proofs.YthmigigclmogiaaDoor
namespace Go.Proofs.YthmigigclmogiaaDoor
open Go.RowKit

variable {P : Program} {ops : Array Oper}

theorem wpH_run_or_enter {S : World → Prop} {Q : Exit → Act → World → Prop} {md : Region.Mode} (i j : Nat) {oi oj : Oper} {tl tl' : List Oper} {fuel : Nat} {listed : Array Bool} {a : Act} {w : World} (hi : ops.toList.drop i = oi :: tl) (hj : ops.toList.drop j = oj :: tl')
    (hr : Region.ready md ops listed = [i, j]) (hgd : Region.wanted oi (yielded ops a.tmps) = true) (hgd' : Region.wanted oj (yielded ops a.tmps) = true)
    (v : Value) (hrun : (execOp a.eval oi).run P w = .ok (.value v) w) (hS : S w)
    (f : FuncId) (args : Array Value) (hrun' : (execOp a.eval oj).run P w = .ok (.enter f args) w) (R : Ending → World → Prop) (hc : Calls P f args w R)
    (h : wpAnyH P md ops Q S fuel (listed.setIfInBounds i true) (a.put oi.dst v) w)
    (h' : ∀ e w', R e w' → ∃ v, e = .returned v ∧ S w' ∧ wpAnyH P md ops Q S fuel (listed.setIfInBounds j true) (a.put oj.dst v) w') : wpAnyH P md ops Q S (fuel + 1) listed a w :=
  wpAnyH_all hr (by simp) (fun k hk => by
    rcases List.mem_cons.1 hk with rfl | hk
    · exact wpOp_step (op_of_drop hi) (fun K' hK => by rw [if_pos hgd]; unfold Oper.wp; rw [hrun]; exact hK _ _ ⟨hS, h⟩)
    · obtain rfl : k = j := by simpa using hk
      exact wpOp_step (op_of_drop hj) (fun K' hK => by
        rw [if_pos hgd']
        unfold Oper.wp
        rw [hrun']
        refine hc.mono fun e w' he => ?_
        obtain ⟨v, rfl, hv⟩ := h' e w' he
        exact hK _ _ hv))
end Go.Proofs.YthmigigclmogiaaDoor
namespace Go.Proofs.YthmigigclmogiaaDoor
open Go.RowKit

variable {P : Program} {ops : Array Oper}

theorem run_alloc_box {o : Oper} {a : Act} {w : World} {ty : TypeId} (ho : o.op = .alloc ty) (cells : Array Value)
    (hr : (Instr.alloc ty true (.tuple #[])).run P w = .ok (.pointer (some ⟨w.heap.size, 0, none⟩)) (w.alloc (.cells cells ty))) :
    (execOp a.eval o).run P w = .ok (.value (.pointer (some ⟨w.heap.size, 0, none⟩))) (w.alloc (.cells cells ty)) := by
  unfold execOp
  simp only [ho, Sem.run_bind, Sem.run_pure, Result.andThen_ok, hr]

theorem wpH_enter_or_run {S : World → Prop} {Q : Exit → Act → World → Prop} {md : Region.Mode} (i j : Nat) {oi oj : Oper} {tl tl' : List Oper} {fuel : Nat} {listed : Array Bool} {a : Act} {w : World} (hi : ops.toList.drop i = oi :: tl) (hj : ops.toList.drop j = oj :: tl')
    (hr : Region.ready md ops listed = [i, j]) (hgd : Region.wanted oi (yielded ops a.tmps) = true) (hgd' : Region.wanted oj (yielded ops a.tmps) = true)
    (f : FuncId) (args : Array Value) (hrun : (execOp a.eval oi).run P w = .ok (.enter f args) w) (R : Ending → World → Prop) (hc : Calls P f args w R)
    (v : Value) (w' : World) (hrun' : (execOp a.eval oj).run P w = .ok (.value v) w') (hS : S w')
    (h : ∀ e w', R e w' → ∃ v, e = .returned v ∧ S w' ∧ wpAnyH P md ops Q S fuel (listed.setIfInBounds i true) (a.put oi.dst v) w')
    (h' : wpAnyH P md ops Q S fuel (listed.setIfInBounds j true) (a.put oj.dst v) w') : wpAnyH P md ops Q S (fuel + 1) listed a w :=
  wpAnyH_all hr (by simp) (fun k hk => by
    rcases List.mem_cons.1 hk with rfl | hk
    · exact wpOp_step (op_of_drop hi) (fun K' hK => by
        rw [if_pos hgd]
        unfold Oper.wp
        rw [hrun]
        refine hc.mono fun e w' he => ?_
        obtain ⟨v, rfl, hv⟩ := h e w' he
        exact hK _ _ hv)
    · obtain rfl : k = j := by simpa using hk
      exact wpOp_step (op_of_drop hj) (fun K' hK => by rw [if_pos hgd']; unfold Oper.wp; rw [hrun']; exact hK _ _ ⟨hS, h'⟩))
end Go.Proofs.YthmigigclmogiaaDoor
namespace Go.Proofs.YthmigigclmogiaaDoor
open Go.RowKit

/-- a tree: a list's mark, a hint's mark, the hint, the data, the values within -/
inductive Sx where
  | mk (l h : Bool) (hi da : List UInt8) (ks : List Sx)

instance : Inhabited Sx := ⟨.mk false false [] [] []⟩

def Sx.l : Sx → Bool | .mk l _ _ _ _ => l
def Sx.h : Sx → Bool | .mk _ h _ _ _ => h
def Sx.hi : Sx → List UInt8 | .mk _ _ x _ _ => x
def Sx.da : Sx → List UInt8 | .mk _ _ _ x _ => x
def Sx.ks : Sx → List Sx | .mk _ _ _ _ x => x

theorem Sx.eta (s : Sx) : s = .mk s.l s.h s.hi s.da s.ks := by cases s; rfl

/-- what holds of a tree if it holds of one whose parts all have it, holds of all -/
theorem Sx.ind {p : Sx → Prop} (h : ∀ l hh hi da ks, (∀ k ∈ ks, p k) → p (.mk l hh hi da ks)) (s : Sx) : p s :=
  Sx.rec (motive_1 := p) (motive_2 := fun ks => ∀ k ∈ ks, p k) (fun l hh hi da ks ih => h l hh hi da ks ih) (fun k hk => by cases hk)
    (fun k ks hk ih j hj => by
      rcases List.mem_cons.1 hj with rfl | hj
      · exact hk
      · exact ih j hj) s

/-- the five cells of a value -/
structure SV where
  l : Bool
  h : Bool
  a1 : Option Addr
  n1 : Nat
  c1 : Nat
  a2 : Option Addr
  n2 : Nat
  c2 : Nat
  a3 : Option Addr
  n3 : Nat
  c3 : Nat
def SV.cells (v : SV) : Array Value := #[.bool v.l, .bool v.h, .slice v.a1 v.n1 v.c1, .slice v.a2 v.n2 v.c2, .slice v.a3 v.n3 v.c3]
def SV.val (v : SV) : Value := .agg #[.bool v.l, .bool v.h, .slice v.a1 v.n1 v.c1, .slice v.a2 v.n2 v.c2, .slice v.a3 v.n3 v.c3]
def SV.nil : SV := ⟨false, false, none, 0, 0, none, 0, 0, none, 0, 0⟩
instance : Inhabited SV := ⟨SV.nil⟩
theorem SV.cells_size (v : SV) : v.cells.size = 5 := rfl

/-- what a slice reads lies in blocks that are ok -/
def InB (ok : Nat → Prop) (a : Option Addr) (n : Nat) : Prop := n = 0 ∨ ∀ b o s, a = some ⟨b, o, s⟩ → ok b
theorem InB.mono {ok ok' : Nat → Prop} {a : Option Addr} {n : Nat} (h : InB ok a n) (hm : ∀ b, ok b → ok' b) : InB ok' a n :=
  h.imp id fun h b o s e => hm b (h b o s e)

/-- a row of values: the cells of each -/
def RowAt (w : World) (a : Option Addr) (n c : Nat) (K : Nat → SV) : Prop :=
  n ≤ c ∧ c ≤ maxLen ∧ (a = none → c = 0) ∧ (n = 0 ∨ ∃ b o, a = some ⟨b, o, none⟩ ∧ ∀ i, i < n → ∀ j v, (K i).cells[j]? = some v → w.cell? ⟨b, o + i * 5 + j, none⟩ = some v)

/-- a value reads as a tree, through blocks that are ok -/
inductive RdI (ok : Nat → Prop) (w : World) : SV → Sx → Prop
  | mk (v : SV) (hi da : List UInt8) (ks : List Sx) (K : Nat → SV) : Sl w v.a1 v.n1 v.c1 hi → InB ok v.a1 v.n1 → Sl w v.a2 v.n2 v.c2 da → InB ok v.a2 v.n2 →
      RowAt w v.a3 v.n3 v.c3 K → InB ok v.a3 v.n3 → v.n3 = ks.length → (∀ i (hi : i < ks.length), RdI ok w (K i) ks[i]) → RdI ok w v (.mk v.l v.h hi da ks)
abbrev Rd (w : World) (v : SV) (s : Sx) : Prop := RdI (fun _ => True) w v s

theorem RdI.parts {ok : Nat → Prop} {w : World} {v : SV} {s : Sx} (h : RdI ok w v s) :
    v.l = s.l ∧ v.h = s.h ∧ Sl w v.a1 v.n1 v.c1 s.hi ∧ Sl w v.a2 v.n2 v.c2 s.da ∧ v.n3 = s.ks.length ∧ v.n3 ≤ v.c3 ∧ v.c3 ≤ maxLen ∧
    ∃ K, RowAt w v.a3 v.n3 v.c3 K ∧ ∀ i (hi : i < s.ks.length), RdI ok w (K i) s.ks[i] := by
  cases h with
  | mk v hi da ks K h1 h2 h3 h4 h5 h6 h7 h8 => exact ⟨rfl, rfl, h1, h3, h7, h5.1, h5.2.1, K, h5, h8⟩

theorem RdI.inb {ok : Nat → Prop} {w : World} {v : SV} {s : Sx} (h : RdI ok w v s) : InB ok v.a1 v.n1 ∧ InB ok v.a2 v.n2 ∧ InB ok v.a3 v.n3 := by
  cases h with
  | mk v hi da ks K h1 h2 h3 h4 h5 h6 h7 h8 => exact ⟨h2, h4, h6⟩
theorem SV.one (v : SV) : v.cells.all (·.oneCell') = true := by simp [SV.cells, Value.oneCell']

theorem RowAt.keep {w w' : World} {a : Option Addr} {n c : Nat} {K : Nat → SV} (h : RowAt w a n c K) (hk : n = 0 ∨ ∀ b o s, a = some ⟨b, o, s⟩ → w'.heap[b]? = w.heap[b]?) : RowAt w' a n c K := by
  obtain ⟨h1, h2, h3, h4⟩ := h
  refine ⟨h1, h2, h3, ?_⟩
  rcases h4 with h4 | ⟨b, o, rfl, h4⟩
  · exact .inl h4
  · rcases hk with hk | hk
    · exact .inl hk
    · exact .inr ⟨b, o, rfl, fun i hi j v hv => (World.cell?_of_block (a := ⟨b, o + i * 5 + j, none⟩) (hk b o none rfl)).trans (h4 i hi j v hv)⟩

theorem Sl.keep {w w' : World} {a : Option Addr} {n c : Nat} {l : List UInt8} (h : Sl w a n c l) (hk : n = 0 ∨ ∀ b o s, a = some ⟨b, o, s⟩ → w'.heap[b]? = w.heap[b]?) : Sl w' a n c l := by
  obtain ⟨h1, h2, h3, h5, h4⟩ := h
  refine ⟨h1, h2, h3, h5, ?_⟩
  rcases h4 with h4 | ⟨b, o, rfl, h4⟩
  · exact .inl h4
  · rcases hk with hk | hk
    · exact .inl hk
    · exact .inr ⟨b, o, rfl, fun i hi => (World.cell?_of_block (a := ⟨b, o + i, none⟩) (hk b o none rfl)).trans (h4 i hi)⟩

theorem InB.heap {ok : Nat → Prop} {w w' : World} {a : Option Addr} {n : Nat} (h : InB ok a n) (hk : ∀ b, ok b → w'.heap[b]? = w.heap[b]?) : n = 0 ∨ ∀ b o s, a = some ⟨b, o, s⟩ → w'.heap[b]? = w.heap[b]? :=
  h.imp id fun h b o s e => hk b (h b o s e)

/-- what lies in blocks that are as they were reads as it did -/
theorem RdI.keep {ok : Nat → Prop} {w w' : World} {v : SV} {s : Sx} (h : RdI ok w v s) (hk : ∀ b, ok b → w'.heap[b]? = w.heap[b]?) : RdI ok w' v s := by
  induction h with
  | mk v hi da ks K h1 h2 h3 h4 h5 h6 h7 h8 ih => exact .mk v hi da ks K (h1.keep (h2.heap hk)) h2 (h3.keep (h4.heap hk)) h4 (h5.keep (h6.heap hk)) h6 h7 ih

theorem RdI.mono {ok ok' : Nat → Prop} {w : World} {v : SV} {s : Sx} (h : RdI ok w v s) (hm : ∀ b, ok b → ok' b) : RdI ok' w v s := by
  induction h with
  | mk v hi da ks K h1 h2 h3 h4 h5 h6 h7 h8 ih => exact .mk v hi da ks K h1 (h2.mono hm) h3 (h4.mono hm) h5 (h6.mono hm) h7 ih

theorem RowAt.lt {w : World} {a : Option Addr} {n c : Nat} {K : Nat → SV} (h : RowAt w a n c K) : InB (fun b => b < w.heap.size) a n := by
  by_cases h0 : n = 0
  · exact .inl h0
  · rcases h.2.2.2 with h4 | ⟨b, o, rfl, h4⟩
    · exact absurd h4 h0
    · refine .inr fun b' o' s e => ?_
      cases e
      exact cell_lt (h4 0 (by omega) 0 _ rfl)

theorem Sl.inB {w : World} {a : Option Addr} {n c : Nat} {l : List UInt8} (h : Sl w a n c l) : InB (fun b => b < w.heap.size) a n := by
  by_cases h0 : n = 0
  · exact .inl h0
  · rcases h.2.2.2.2 with h4 | ⟨b, o, rfl, h4⟩
    · exact absurd h4 h0
    · refine .inr fun b' o' s e => ?_
      cases e
      exact cell_lt (h4 0 (by omega))

theorem InB.both {p q : Nat → Prop} {a : Option Addr} {n : Nat} (h : InB p a n) (h' : InB q a n) : InB (fun b => p b ∧ q b) a n := by
  rcases h with h | h
  · exact .inl h
  · rcases h' with h' | h'
    · exact .inl h'
    · exact .inr fun b o s e => ⟨h b o s e, h' b o s e⟩

/-- it reads through blocks that are there -/
theorem RdI.there {ok : Nat → Prop} {w : World} {v : SV} {s : Sx} (h : RdI ok w v s) : RdI (fun b => ok b ∧ b < w.heap.size) w v s := by
  induction h with
  | mk v hi da ks K h1 h2 h3 h4 h5 h6 h7 h8 ih => exact .mk v hi da ks K h1 (h2.both h1.inB) h3 (h4.both h3.inB) h5 (h6.both h5.lt) h7 ih

theorem RdI.after {ok : Nat → Prop} {w w' : World} {v : SV} {s : Sx} (h : RdI ok w v s) (hb : Below w.heap.size w w') : RdI ok w' v s :=
  (h.there.keep fun b hb' => hb.block b hb'.2).mono fun _ h => h.1
theorem RdI.drew {ok : Nat → Prop} {w : World} {v : SV} {s : Sx} (h : RdI ok w v s) : RdI ok w.drew v s := h.keep fun _ _ => rfl
theorem RowAt.after {w w' : World} {a : Option Addr} {n c : Nat} {K : Nat → SV} (h : RowAt w a n c K) (hb : Below w.heap.size w w') : RowAt w' a n c K :=
  h.keep (h.lt.imp id fun h b o s e => hb.block b (h b o s e))

/-- a value within a row, as cells in the midst of a block -/
theorem RowAt.range {w : World} {a : Option Addr} {n c : Nat} {K : Nat → SV} (h : RowAt w a n c K) {i : Nat} (hi : i < n) :
    ∃ b o, a = some ⟨b, o, none⟩ ∧ w.rangeAt b (o + i * 5) (K i).cells.toList := by
  rcases h.2.2.2 with h4 | ⟨b, o, rfl, h4⟩
  · omega
  · exact ⟨b, o, rfl, fun j v hv => h4 i hi j v (by simpa using hv)⟩

/-- the tree of no value -/
def Sx.nil : Sx := .mk false false [] [] []
theorem Sl.nil (w : World) : Sl w none 0 0 [] := ⟨rfl, Nat.le_refl _, Nat.zero_le _, fun _ => rfl, .inl rfl⟩
theorem rd_nil (ok : Nat → Prop) (w : World) : RdI ok w SV.nil Sx.nil :=
  .mk SV.nil [] [] [] (fun _ => SV.nil) (Sl.nil w) (.inl rfl) (Sl.nil w) (.inl rfl) ⟨Nat.le_refl _, Nat.zero_le _, fun _ => rfl, .inl rfl⟩ (.inl rfl) rfl (fun i hi => by cases hi)
end Go.Proofs.YthmigigclmogiaaDoor
namespace Go.Proofs.YthmigigclmogiaaDoor
open Go.RowKit

mutual
def Sx.nodes : Sx → Nat
  | .mk _ _ _ _ ks => 1 + Sx.nodesL ks
def Sx.nodesL : List Sx → Nat
  | [] => 0
  | k :: r => k.nodes + Sx.nodesL r
end
theorem Sx.nodesL_append (a b : List Sx) : Sx.nodesL (a ++ b) = Sx.nodesL a + Sx.nodesL b := by
  induction a with
  | nil => simp [Sx.nodesL]
  | cons k a ih => simp [Sx.nodesL, ih]; omega
theorem Sx.nodesL_snoc (ks : List Sx) (k : Nat) (h : k < ks.length) : Sx.nodesL (ks.take (k + 1)) = Sx.nodesL (ks.take k) + ks[k].nodes := by
  rw [List.take_succ_eq_append_getElem h, Sx.nodesL_append]
  simp [Sx.nodesL]

theorem wrap_two (a b : Int) : wrap64 (wrap64 a + wrap64 b) = wrap64 (a + b) := by unfold wrap64; omega
theorem wrap_of (a : Int) (h : -9223372036854775808 ≤ a ∧ a < 9223372036854775808) : wrap64 a = a := by unfold wrap64; omega

/-- a value within a row is loaded -/
theorem wpList_load_sv {ops : Array Oper} {rest : List Oper} {o : Oper} {a : Act} {w : World} {Q : Exit → Act → World → Prop} (hgd : o.guard = none) (x : Operand) (ho : o.op = .load 33 x)
    (b k : Nat) (hx : a.eval x = .pointer (some ⟨b, k, none⟩)) (v : SV) (hc : w.rangeAt b k v.cells.toList) (h : wpList Tryd.prog ops Q rest (a.put o.dst v.val) w) : wpList Tryd.prog ops Q (o :: rest) a w :=
  wpList_load_mid hgd 33 x ho b k hx _ _ hc Tryd.underlying33 rfl (by kernel_rfl) h

end Go.Proofs.YthmigigclmogiaaDoor
namespace Go.Proofs.YthmigigclmogiaaDoor
open Go.RowKit

mutual
def Sx.deep : Sx → Nat
  | .mk l _ _ _ ks => if l then Sx.deepL ks + 1 else 0
def Sx.deepL : List Sx → Nat
  | [] => 0
  | k :: r => max k.deep (Sx.deepL r)
end
mutual
def Sx.clean : Sx → Bool
  | .mk l h hi da ks => (if l then !h && hi.length == 0 && da.length == 0 else ks.length == 0 && (h || hi.length == 0)) && Sx.cleanL ks
def Sx.cleanL : List Sx → Bool
  | [] => true
  | k :: r => k.clean && Sx.cleanL r
end
mutual
/-- 'Great' but for the number of all values -/
def Sx.wide : Sx → Nat → Bool
  | .mk _ _ hi da ks, at_ => decide (60 < at_) || decide (700 < ks.length) || decide (5000 < hi.length) || decide (5000 < da.length) || Sx.wideL ks (at_ + 1)
def Sx.wideL : List Sx → Nat → Bool
  | [], _ => false
  | k :: r, at_ => k.wide at_ || Sx.wideL r at_
end
def Sx.great (s : Sx) (at_ : Nat) : Bool := s.wide at_ || (at_ == 0 && decide (2000 < wrap64 (s.nodes : Int)))

theorem Sx.deepL_snoc (ks : List Sx) (k : Nat) (h : k < ks.length) : Sx.deepL (ks.take (k + 1)) = max (Sx.deepL (ks.take k)) ks[k].deep := by
  induction ks generalizing k with
  | nil => simp at h
  | cons a r ih =>
    cases k with
    | zero => simp [Sx.deepL]
    | succ k => simp only [List.take_succ_cons, Sx.deepL, List.getElem_cons_succ]; rw [ih k (by simpa using h)]; omega
theorem Sx.deepL_mem {ks : List Sx} {k : Sx} (h : k ∈ ks) : k.deep ≤ Sx.deepL ks := by
  induction ks with
  | nil => cases h
  | cons a r ih => rcases List.mem_cons.1 h with rfl | h
                   · simp only [Sx.deepL]; omega
                   · have := ih h; simp only [Sx.deepL]; omega
theorem Sx.deepL_take (ks : List Sx) (k : Nat) : Sx.deepL (ks.take k) ≤ Sx.deepL ks := by
  induction ks generalizing k with
  | nil => simp
  | cons a r ih => cases k with
    | zero => simp [Sx.deepL]
    | succ k => have := ih k; simp only [List.take_succ_cons, Sx.deepL]; omega
theorem Sx.cleanL_snoc (ks : List Sx) (k : Nat) (h : k < ks.length) : Sx.cleanL (ks.take (k + 1)) = (Sx.cleanL (ks.take k) && ks[k].clean) := by
  induction ks generalizing k with
  | nil => simp at h
  | cons a r ih =>
    cases k with
    | zero => simp [Sx.cleanL]
    | succ k => simp only [List.take_succ_cons, Sx.cleanL, List.getElem_cons_succ]; rw [ih k (by simpa using h), Bool.and_assoc]
theorem Sx.cleanL_no {ks : List Sx} {k : Sx} (h : k ∈ ks) (hk : k.clean = false) : Sx.cleanL ks = false := by
  induction ks with
  | nil => cases h
  | cons a r ih => rcases List.mem_cons.1 h with rfl | h
                   · simp [Sx.cleanL, hk]
                   · simp [Sx.cleanL, ih h]
theorem Sx.wideL_snoc (ks : List Sx) (m k : Nat) (h : k < ks.length) : Sx.wideL (ks.take (k + 1)) m = (Sx.wideL (ks.take k) m || ks[k].wide m) := by
  induction ks generalizing k with
  | nil => simp at h
  | cons a r ih =>
    cases k with
    | zero => simp [Sx.wideL]
    | succ k => simp only [List.take_succ_cons, Sx.wideL, List.getElem_cons_succ]; rw [ih k (by simpa using h), Bool.or_assoc]
theorem Sx.wideL_yes {ks : List Sx} {k : Sx} {m : Nat} (h : k ∈ ks) (hk : k.wide m = true) : Sx.wideL ks m = true := by
  induction ks with
  | nil => cases h
  | cons a r ih => rcases List.mem_cons.1 h with rfl | h
                   · simp [Sx.wideL, hk]
                   · simp [Sx.wideL, ih h]

def headOk (l h : Bool) (a b c : Nat) : Bool := if l then !h && a == 0 && b == 0 else c == 0 && (h || a == 0)
theorem headOk1 (a b c : Nat) : headOk true true a b c = false := rfl
theorem headOk2 {a : Nat} (b c : Nat) (h : 0 < a) : headOk true false a b c = false := by unfold headOk; simp; omega
theorem headOk3 (a : Nat) {b : Nat} (c : Nat) (h : 0 < b) : headOk true false a b c = false := by unfold headOk; simp; omega
theorem headOk4 {a b : Nat} (c : Nat) (h : a = 0) (h' : b = 0) : headOk true false a b c = true := by subst h h'; rfl
theorem headOk5 (hh : Bool) (a b : Nat) {c : Nat} (h : 0 < c) : headOk false hh a b c = false := by unfold headOk; simp; omega
theorem headOk6 (a b : Nat) {c : Nat} (h : c = 0) : headOk false true a b c = true := by subst h; rfl
theorem headOk7 {a : Nat} (b c : Nat) (h : 0 < a) : headOk false false a b c = false := by unfold headOk; simp; omega
theorem headOk8 {a : Nat} (b : Nat) {c : Nat} (h : a = 0) (h' : c = 0) : headOk false false a b c = true := by subst h h'; rfl
theorem clean_def (l h : Bool) (hi da : List UInt8) (ks : List Sx) : (Sx.mk l h hi da ks).clean = (headOk l h hi.length da.length ks.length && Sx.cleanL ks) := by simp only [Sx.clean, headOk]
theorem wide_def (l h : Bool) (hi da : List UInt8) (ks : List Sx) (m : Nat) : (Sx.mk l h hi da ks).wide m = (decide (60 < m) || decide (700 < ks.length) || decide (5000 < hi.length) || decide (5000 < da.length) || Sx.wideL ks (m + 1)) := by simp only [Sx.wide]
theorem great_yes {s : Sx} {m : Nat} (h : s.wide m = true) : s.great m = true := by unfold Sx.great; rw [h]; rfl
theorem great_kid (s : Sx) (m : Nat) : s.great (m + 1) = s.wide (m + 1) := by unfold Sx.great; simp
theorem great_pos {s : Sx} {m : Nat} (h : 0 < m) (hw : s.wide m = false) : s.great m = false := by unfold Sx.great; rw [hw]; simp; omega
theorem great_zero {s : Sx} (hw : s.wide 0 = false) : s.great 0 = decide (2000 < wrap64 (s.nodes : Int)) := by unfold Sx.great; rw [hw]; simp only [Bool.false_or, BEq.rfl, Bool.true_and]
end Go.Proofs.YthmigigclmogiaaDoor
namespace Go.Proofs.YthmigigclmogiaaDoor
open Go.RowKit

theorem wpQ_callS {P : Program} {ops : Array Oper} {W : World} {B : Nat} {Q : Act → Prop} {a : Act} {o : Oper} {rest : List Oper} (hgd : Region.wanted o (yielded ops a.tmps) = true) (f : FuncId) (args : Array Value) (hr : ∀ w, (execOp a.eval o).run P w = .ok (.enter f args) w) (v : Value) (hB : B ≤ W.heap.size)
    (hc : ∀ w, Below B W w → Calls P f args w fun e w' => e = .returned v ∧ Below w.heap.size w w')
    (h : wpQuiet P ops (fun w' => Below B W w') Q rest (a.put o.dst v)) : wpQuiet P ops (fun w' => Below B W w') Q (o :: rest) a :=
  wpQ_plain hgd ⟨v, fun w hw => by
    unfold Oper.quietAt
    rw [hr w]
    exact ⟨rfl, (hc w hw).mono fun e w'' ⟨he, hb⟩ => ⟨he, hw.trans (hb.mono (by have := hw.size; omega))⟩⟩, h⟩

theorem run_load_sv {o : Oper} {a : Act} {w : World} (x : Operand) (ho : o.op = .load 33 x) (b k : Nat) (hx : a.eval x = .pointer (some ⟨b, k, none⟩)) (v : SV) (hc : w.rangeAt b k v.cells.toList) : (execOp a.eval o).run Tryd.prog w = .ok (.value v.val) w := by
  unfold execOp
  simp only [ho, hx, Instr.loadAt, Instr.sureAddr, Sem.run_bind, Sem.run_pure, Result.andThen_ok, run_loadVar_mid w b k 33 _ _ hc Tryd.underlying33 rfl (by kernel_rfl)]
  rfl
theorem RowAt.rangeA {w : World} {b o n c : Nat} {K : Nat → SV} (h : RowAt w (some ⟨b, o, none⟩) n c K) {i : Nat} (hi : i < n) : w.rangeAt b (o + i * 5) (K i).cells.toList := by
  obtain ⟨b', o', e, h⟩ := h.range hi
  cases e
  exact h
theorem RowAt.rangeB {w : World} {a : Option Addr} {n c : Nat} {K : Nat → SV} (h : RowAt w a n c K) {i : Nat} (hi : i < n) : ∃ b o, a = some ⟨b, o, none⟩ ∧ True := by
  obtain ⟨b', o', e, h⟩ := h.range hi
  exact ⟨b', o', e, trivial⟩

mutual
/-- the same trees? -/
def Sx.same : Sx → Sx → Bool
  | .mk l h hi da ks, .mk l2 h2 hi2 da2 ks2 => l == l2 && h == h2 && hi == hi2 && da == da2 && Sx.sameL ks ks2
def Sx.sameL : List Sx → List Sx → Bool
  | [], [] => true
  | a :: r, b :: s => a.same b && Sx.sameL r s
  | _, _ => false
end
theorem same_def (l h : Bool) (hi da : List UInt8) (ks : List Sx) (l2 h2 : Bool) (hi2 da2 : List UInt8) (ks2 : List Sx) : (Sx.mk l h hi da ks).same (.mk l2 h2 hi2 da2 ks2) = (l == l2 && h == h2 && hi == hi2 && da == da2 && Sx.sameL ks ks2) := by simp only [Sx.same]
theorem sameL_len {a b : List Sx} (h : a.length ≠ b.length) : Sx.sameL a b = false := by
  induction a generalizing b with
  | nil => cases b with
    | nil => exact absurd rfl h
    | cons y s => rfl
  | cons x r ih => cases b with
    | nil => rfl
    | cons y s => simp only [Sx.sameL]; rw [ih (fun e => h (by simp [e]))]; simp
theorem sameL_snoc {a b : List Sx} (k : Nat) (h : k < a.length) (h' : k < b.length) : Sx.sameL (a.take (k + 1)) (b.take (k + 1)) = (Sx.sameL (a.take k) (b.take k) && a[k].same b[k]) := by
  induction a generalizing b k with
  | nil => simp at h
  | cons x r ih =>
    cases b with
    | nil => simp at h'
    | cons y s =>
      cases k with
      | zero => simp [Sx.sameL]
      | succ k => simp only [List.take_succ_cons, Sx.sameL, List.getElem_cons_succ]; rw [ih k (by simpa using h) (by simpa using h'), Bool.and_assoc]
theorem sameL_no {a b : List Sx} (k : Nat) (h : k < a.length) (h' : k < b.length) (hk : a[k].same b[k] = false) : Sx.sameL a b = false := by
  induction a generalizing b k with
  | nil => simp at h
  | cons x r ih =>
    cases b with
    | nil => simp at h'
    | cons y s =>
      cases k with
      | zero => simp only [List.getElem_cons_zero] at hk; simp [Sx.sameL, hk]
      | succ k => simp only [Sx.sameL, ih k (by simpa using h) (by simpa using h') (by simpa using hk), Bool.and_false]
theorem Sx.same_iff (s : Sx) : ∀ t, s.same t = true ↔ s = t := by
  induction s using Sx.ind with
  | h l hh hi da ks ih =>
    intro t
    obtain ⟨l2, h2, hi2, da2, ks2⟩ := t
    rw [same_def]
    have key : Sx.sameL ks ks2 = true ↔ ks = ks2 := by
      clear l hh hi da l2 h2 hi2 da2
      induction ks generalizing ks2 with
      | nil => cases ks2 <;> simp [Sx.sameL]
      | cons x r ihr =>
        cases ks2 with
        | nil => simp [Sx.sameL]
        | cons y s =>
          simp only [Sx.sameL, Bool.and_eq_true, ih x List.mem_cons_self y, ihr (fun k hk => ih k (List.mem_cons_of_mem _ hk)) s, List.cons.injEq]
    simp only [Bool.and_eq_true, beq_iff_eq, key, Sx.mk.injEq]
    constructor
    · rintro ⟨⟨⟨⟨rfl, rfl⟩, rfl⟩, rfl⟩, rfl⟩; exact ⟨rfl, rfl, rfl, rfl, rfl⟩
    · rintro ⟨rfl, rfl, rfl, rfl, rfl⟩; exact ⟨⟨⟨⟨rfl, rfl⟩, rfl⟩, rfl⟩, rfl⟩
theorem Sx.same_refl (s : Sx) : s.same s = true := (s.same_iff s).2 rfl

set_option maxHeartbeats 4000000 in
set_option maxRecDepth 100000 in
theorem refSame_any (s : Sx) : ∀ (t : Sx) (v vb : SV) (w : World), Rd w v s → Rd w vb t → Calls Tryd.prog 8 #[v.val, vb.val] w fun e w' => e = .returned (.bool (s.same t)) ∧ Below w.heap.size w w' := by
  induction s using Sx.ind with
  | h l hh hi da ks ih =>
  intro t v vb w hr hrb
  obtain ⟨lb, hhb, hib, dab, ksb⟩ := t
  have IH := Lib.hid ih
  clear ih
  have HRR := Lib.hid hr
  obtain ⟨hvl, hvh, hs1, hs2, hn, hnc, hcm, K, hrow, hk⟩ := hr.parts
  obtain ⟨vl, vh, a1, n1, k1, a2, n2, k2, a3, n3, k3⟩ := v
  dsimp only at hn hnc hcm hrow hk hvl hvh hs1 hs2
  obtain rfl : vl = l := hvl
  obtain rfl : vh = hh := hvh
  replace hn : n3 = ks.length := hn
  replace hs1 : Sl w a1 n1 k1 hi := hs1
  replace hs2 : Sl w a2 n2 k2 da := hs2
  replace hk : ∀ i (hi : i < ks.length), RdI (fun _ => True) w (K i) ks[i] := hk
  have HK := Lib.hid hk
  have HR := Lib.hid hrow
  have HS1 := Lib.hid hs1
  have HS2 := Lib.hid hs2
  have HN3 := Lib.hid hn
  clear hk hrow hr hs1 hs2 hn
  unfold maxLen at hcm
  have HRRb := Lib.hid hrb
  obtain ⟨hvl, hvh, hs1, hs2, hn, hncb, hcmb, Kb, hrow, hk⟩ := hrb.parts
  obtain ⟨vlb, vhb, a1b, n1b, k1b, a2b, n2b, k2b, a3b, n3b, k3b⟩ := vb
  dsimp only at hn hncb hcmb hrow hk hvl hvh hs1 hs2
  obtain rfl : vlb = lb := hvl
  obtain rfl : vhb = hhb := hvh
  replace hn : n3b = ksb.length := hn
  replace hs1 : Sl w a1b n1b k1b hib := hs1
  replace hs2 : Sl w a2b n2b k2b dab := hs2
  replace hk : ∀ i (hi : i < ksb.length), RdI (fun _ => True) w (Kb i) ksb[i] := hk
  have HKb := Lib.hid hk
  have HRb := Lib.hid hrow
  have HS1b := Lib.hid hs1
  have HS2b := Lib.hid hs2
  have HN3b := Lib.hid hn
  clear hk hrow hrb hs1 hs2 hn
  unfold maxLen at hcmb
  by_cases e0 : vl = vlb
  case neg =>
    have HQ := Lib.hid e0
    have hb0 : Below w.heap.size w ((w.alloc (.cells #[.bool vl, .bool vh, .slice a1 n1 k1, .slice a2 n2 k2, .slice a3 n3 k3] 33)).alloc (.cells #[.bool vlb, .bool vhb, .slice a1b n1b k1b, .slice a2b n2b k2b, .slice a3b n3b k3b] 33)) := ((Below.refl _ _).alloc (Nat.le_refl _) _).alloc (by simp) _
    have A0 : Box ((w.alloc (.cells #[.bool vl, .bool vh, .slice a1 n1 k1, .slice a2 n2 k2, .slice a3 n3 k3] 33)).alloc (.cells #[.bool vlb, .bool vhb, .slice a1b n1b k1b, .slice a2b n2b k2b, .slice a3b n3b k3b] 33)) w.heap.size 33 #[.bool vl, .bool vh, .slice a1 n1 k1, .slice a2 n2 k2, .slice a3 n3 k3] := (Box.new _ _ _).alloc _
    have B0 : Box ((w.alloc (.cells #[.bool vl, .bool vh, .slice a1 n1 k1, .slice a2 n2 k2, .slice a3 n3 k3] 33)).alloc (.cells #[.bool vlb, .bool vhb, .slice a1b n1b k1b, .slice a2b n2b k2b, .slice a3b n3b k3b] 33)) (w.heap.size + 1) 33 #[.bool vlb, .bool vhb, .slice a1b n1b k1b, .slice a2b n2b k2b, .slice a3b n3b k3b] := by
      have := Box.new (w.alloc (.cells #[.bool vl, .bool vh, .slice a1 n1 k1, .slice a2 n2 k2, .slice a3 n3 k3] 33)) 33 #[.bool vlb, .bool vhb, .slice a1b n1b k1b, .slice a2b n2b k2b, .slice a3b n3b k3b]
      simpa using this
    have x0 := A0.cell 0 rfl
    have x1 := A0.cell 1 rfl
    have x2 := A0.cell 2 rfl
    have x3 := A0.cell 3 rfl
    have x4 := A0.cell 4 rfl
    have y0 := B0.cell 0 rfl
    have y1 := B0.cell 1 rfl
    have y2 := B0.cell 2 rfl
    have y3 := B0.cell 3 rfl
    have y4 := B0.cell 4 rfl
    have c1 := conv_sl (HS1.out.after hb0)
    have c2 := conv_sl (HS2.out.after hb0)
    have d1 := conv_sl (HS1b.out.after hb0)
    have d2 := conv_sl (HS2b.out.after hb0)
    show Calls _ _ #[.agg #[.bool vl, .bool vh, .slice a1 n1 k1, .slice a2 n2 k2, .slice a3 n3 k3], .agg #[.bool vlb, .bool vhb, .slice a1b n1b k1b, .slice a2b n2b k2b, .slice a3b n3b k3b]] _ _
    go_enter Tryd.func8, Tryd.ntmps8
    go_wp2_with fail
    go_ret
    exact ⟨by rw [same_def]; simp [HQ.out], hb0⟩
  subst e0
  by_cases e1 : vh = vhb
  case neg =>
    have HQ := Lib.hid e1
    have hb0 : Below w.heap.size w ((w.alloc (.cells #[.bool vl, .bool vh, .slice a1 n1 k1, .slice a2 n2 k2, .slice a3 n3 k3] 33)).alloc (.cells #[.bool vl, .bool vhb, .slice a1b n1b k1b, .slice a2b n2b k2b, .slice a3b n3b k3b] 33)) := ((Below.refl _ _).alloc (Nat.le_refl _) _).alloc (by simp) _
    have A0 : Box ((w.alloc (.cells #[.bool vl, .bool vh, .slice a1 n1 k1, .slice a2 n2 k2, .slice a3 n3 k3] 33)).alloc (.cells #[.bool vl, .bool vhb, .slice a1b n1b k1b, .slice a2b n2b k2b, .slice a3b n3b k3b] 33)) w.heap.size 33 #[.bool vl, .bool vh, .slice a1 n1 k1, .slice a2 n2 k2, .slice a3 n3 k3] := (Box.new _ _ _).alloc _
    have B0 : Box ((w.alloc (.cells #[.bool vl, .bool vh, .slice a1 n1 k1, .slice a2 n2 k2, .slice a3 n3 k3] 33)).alloc (.cells #[.bool vl, .bool vhb, .slice a1b n1b k1b, .slice a2b n2b k2b, .slice a3b n3b k3b] 33)) (w.heap.size + 1) 33 #[.bool vl, .bool vhb, .slice a1b n1b k1b, .slice a2b n2b k2b, .slice a3b n3b k3b] := by
      have := Box.new (w.alloc (.cells #[.bool vl, .bool vh, .slice a1 n1 k1, .slice a2 n2 k2, .slice a3 n3 k3] 33)) 33 #[.bool vl, .bool vhb, .slice a1b n1b k1b, .slice a2b n2b k2b, .slice a3b n3b k3b]
      simpa using this
    have x0 := A0.cell 0 rfl
    have x1 := A0.cell 1 rfl
    have x2 := A0.cell 2 rfl
    have x3 := A0.cell 3 rfl
    have x4 := A0.cell 4 rfl
    have y0 := B0.cell 0 rfl
    have y1 := B0.cell 1 rfl
    have y2 := B0.cell 2 rfl
    have y3 := B0.cell 3 rfl
    have y4 := B0.cell 4 rfl
    have c1 := conv_sl (HS1.out.after hb0)
    have c2 := conv_sl (HS2.out.after hb0)
    have d1 := conv_sl (HS1b.out.after hb0)
    have d2 := conv_sl (HS2b.out.after hb0)
    show Calls _ _ #[.agg #[.bool vl, .bool vh, .slice a1 n1 k1, .slice a2 n2 k2, .slice a3 n3 k3], .agg #[.bool vl, .bool vhb, .slice a1b n1b k1b, .slice a2b n2b k2b, .slice a3b n3b k3b]] _ _
    go_enter Tryd.func8, Tryd.ntmps8
    go_wp2_with fail
    go_ret
    exact ⟨by rw [same_def]; simp [HQ.out], hb0⟩
  subst e1
  by_cases e2 : hi = hib
  case neg =>
    have HQ := Lib.hid e2
    have q2 : (hi == hib) = false := by simpa using e2
    clear e2
    have hb0 : Below w.heap.size w ((w.alloc (.cells #[.bool vl, .bool vh, .slice a1 n1 k1, .slice a2 n2 k2, .slice a3 n3 k3] 33)).alloc (.cells #[.bool vl, .bool vh, .slice a1b n1b k1b, .slice a2b n2b k2b, .slice a3b n3b k3b] 33)) := ((Below.refl _ _).alloc (Nat.le_refl _) _).alloc (by simp) _
    have A0 : Box ((w.alloc (.cells #[.bool vl, .bool vh, .slice a1 n1 k1, .slice a2 n2 k2, .slice a3 n3 k3] 33)).alloc (.cells #[.bool vl, .bool vh, .slice a1b n1b k1b, .slice a2b n2b k2b, .slice a3b n3b k3b] 33)) w.heap.size 33 #[.bool vl, .bool vh, .slice a1 n1 k1, .slice a2 n2 k2, .slice a3 n3 k3] := (Box.new _ _ _).alloc _
    have B0 : Box ((w.alloc (.cells #[.bool vl, .bool vh, .slice a1 n1 k1, .slice a2 n2 k2, .slice a3 n3 k3] 33)).alloc (.cells #[.bool vl, .bool vh, .slice a1b n1b k1b, .slice a2b n2b k2b, .slice a3b n3b k3b] 33)) (w.heap.size + 1) 33 #[.bool vl, .bool vh, .slice a1b n1b k1b, .slice a2b n2b k2b, .slice a3b n3b k3b] := by
      have := Box.new (w.alloc (.cells #[.bool vl, .bool vh, .slice a1 n1 k1, .slice a2 n2 k2, .slice a3 n3 k3] 33)) 33 #[.bool vl, .bool vh, .slice a1b n1b k1b, .slice a2b n2b k2b, .slice a3b n3b k3b]
      simpa using this
    have x0 := A0.cell 0 rfl
    have x1 := A0.cell 1 rfl
    have x2 := A0.cell 2 rfl
    have x3 := A0.cell 3 rfl
    have x4 := A0.cell 4 rfl
    have y0 := B0.cell 0 rfl
    have y1 := B0.cell 1 rfl
    have y2 := B0.cell 2 rfl
    have y3 := B0.cell 3 rfl
    have y4 := B0.cell 4 rfl
    have c1 := conv_sl (HS1.out.after hb0)
    have c2 := conv_sl (HS2.out.after hb0)
    have d1 := conv_sl (HS1b.out.after hb0)
    have d2 := conv_sl (HS2b.out.after hb0)
    show Calls _ _ #[.agg #[.bool vl, .bool vh, .slice a1 n1 k1, .slice a2 n2 k2, .slice a3 n3 k3], .agg #[.bool vl, .bool vh, .slice a1b n1b k1b, .slice a2b n2b k2b, .slice a3b n3b k3b]] _ _
    go_enter Tryd.func8, Tryd.ntmps8
    go_wp2_with fail
    go_ret
    exact ⟨by rw [same_def]; simp [HQ.out], hb0⟩
  subst e2
  by_cases e3 : da = dab
  case neg =>
    have HQ := Lib.hid e3
    have q3 : (da == dab) = false := by simpa using e3
    clear e3
    have hb0 : Below w.heap.size w ((w.alloc (.cells #[.bool vl, .bool vh, .slice a1 n1 k1, .slice a2 n2 k2, .slice a3 n3 k3] 33)).alloc (.cells #[.bool vl, .bool vh, .slice a1b n1b k1b, .slice a2b n2b k2b, .slice a3b n3b k3b] 33)) := ((Below.refl _ _).alloc (Nat.le_refl _) _).alloc (by simp) _
    have A0 : Box ((w.alloc (.cells #[.bool vl, .bool vh, .slice a1 n1 k1, .slice a2 n2 k2, .slice a3 n3 k3] 33)).alloc (.cells #[.bool vl, .bool vh, .slice a1b n1b k1b, .slice a2b n2b k2b, .slice a3b n3b k3b] 33)) w.heap.size 33 #[.bool vl, .bool vh, .slice a1 n1 k1, .slice a2 n2 k2, .slice a3 n3 k3] := (Box.new _ _ _).alloc _
    have B0 : Box ((w.alloc (.cells #[.bool vl, .bool vh, .slice a1 n1 k1, .slice a2 n2 k2, .slice a3 n3 k3] 33)).alloc (.cells #[.bool vl, .bool vh, .slice a1b n1b k1b, .slice a2b n2b k2b, .slice a3b n3b k3b] 33)) (w.heap.size + 1) 33 #[.bool vl, .bool vh, .slice a1b n1b k1b, .slice a2b n2b k2b, .slice a3b n3b k3b] := by
      have := Box.new (w.alloc (.cells #[.bool vl, .bool vh, .slice a1 n1 k1, .slice a2 n2 k2, .slice a3 n3 k3] 33)) 33 #[.bool vl, .bool vh, .slice a1b n1b k1b, .slice a2b n2b k2b, .slice a3b n3b k3b]
      simpa using this
    have x0 := A0.cell 0 rfl
    have x1 := A0.cell 1 rfl
    have x2 := A0.cell 2 rfl
    have x3 := A0.cell 3 rfl
    have x4 := A0.cell 4 rfl
    have y0 := B0.cell 0 rfl
    have y1 := B0.cell 1 rfl
    have y2 := B0.cell 2 rfl
    have y3 := B0.cell 3 rfl
    have y4 := B0.cell 4 rfl
    have c1 := conv_sl (HS1.out.after hb0)
    have c2 := conv_sl (HS2.out.after hb0)
    have d1 := conv_sl (HS1b.out.after hb0)
    have d2 := conv_sl (HS2b.out.after hb0)
    show Calls _ _ #[.agg #[.bool vl, .bool vh, .slice a1 n1 k1, .slice a2 n2 k2, .slice a3 n3 k3], .agg #[.bool vl, .bool vh, .slice a1b n1b k1b, .slice a2b n2b k2b, .slice a3b n3b k3b]] _ _
    go_enter Tryd.func8, Tryd.ntmps8
    go_wp2_with fail
    go_ret
    exact ⟨by rw [same_def]; simp [HQ.out], hb0⟩
  subst e3
  by_cases e4 : n3 = n3b
  case neg =>
    have HQ : Hid (Sx.sameL ks ksb = false) := Lib.hid (sameL_len (by have := HN3.out; have := HN3b.out; omega))
    have q4 : ((n3 : Int) == n3b) = false := by simp; omega
    have q5 : ((n3 : Int) != n3b) = true := by simp; omega
    clear e4
    have hb0 : Below w.heap.size w ((w.alloc (.cells #[.bool vl, .bool vh, .slice a1 n1 k1, .slice a2 n2 k2, .slice a3 n3 k3] 33)).alloc (.cells #[.bool vl, .bool vh, .slice a1b n1b k1b, .slice a2b n2b k2b, .slice a3b n3b k3b] 33)) := ((Below.refl _ _).alloc (Nat.le_refl _) _).alloc (by simp) _
    have A0 : Box ((w.alloc (.cells #[.bool vl, .bool vh, .slice a1 n1 k1, .slice a2 n2 k2, .slice a3 n3 k3] 33)).alloc (.cells #[.bool vl, .bool vh, .slice a1b n1b k1b, .slice a2b n2b k2b, .slice a3b n3b k3b] 33)) w.heap.size 33 #[.bool vl, .bool vh, .slice a1 n1 k1, .slice a2 n2 k2, .slice a3 n3 k3] := (Box.new _ _ _).alloc _
    have B0 : Box ((w.alloc (.cells #[.bool vl, .bool vh, .slice a1 n1 k1, .slice a2 n2 k2, .slice a3 n3 k3] 33)).alloc (.cells #[.bool vl, .bool vh, .slice a1b n1b k1b, .slice a2b n2b k2b, .slice a3b n3b k3b] 33)) (w.heap.size + 1) 33 #[.bool vl, .bool vh, .slice a1b n1b k1b, .slice a2b n2b k2b, .slice a3b n3b k3b] := by
      have := Box.new (w.alloc (.cells #[.bool vl, .bool vh, .slice a1 n1 k1, .slice a2 n2 k2, .slice a3 n3 k3] 33)) 33 #[.bool vl, .bool vh, .slice a1b n1b k1b, .slice a2b n2b k2b, .slice a3b n3b k3b]
      simpa using this
    have x0 := A0.cell 0 rfl
    have x1 := A0.cell 1 rfl
    have x2 := A0.cell 2 rfl
    have x3 := A0.cell 3 rfl
    have x4 := A0.cell 4 rfl
    have y0 := B0.cell 0 rfl
    have y1 := B0.cell 1 rfl
    have y2 := B0.cell 2 rfl
    have y3 := B0.cell 3 rfl
    have y4 := B0.cell 4 rfl
    have c1 := conv_sl (HS1.out.after hb0)
    have c2 := conv_sl (HS2.out.after hb0)
    have d1 := conv_sl (HS1b.out.after hb0)
    have d2 := conv_sl (HS2b.out.after hb0)
    show Calls _ _ #[.agg #[.bool vl, .bool vh, .slice a1 n1 k1, .slice a2 n2 k2, .slice a3 n3 k3], .agg #[.bool vl, .bool vh, .slice a1b n1b k1b, .slice a2b n2b k2b, .slice a3b n3b k3b]] _ _
    go_enter Tryd.func8, Tryd.ntmps8
    go_wp2_with fail
    go_ret
    exact ⟨by rw [same_def]; simp [HQ.out], hb0⟩
  subst e4
  have hb0 : Below w.heap.size w ((w.alloc (.cells #[.bool vl, .bool vh, .slice a1 n1 k1, .slice a2 n2 k2, .slice a3 n3 k3] 33)).alloc (.cells #[.bool vl, .bool vh, .slice a1b n1b k1b, .slice a2b n2b k2b, .slice a3b n3 k3b] 33)) := ((Below.refl _ _).alloc (Nat.le_refl _) _).alloc (by simp) _
  have A0 : Box ((w.alloc (.cells #[.bool vl, .bool vh, .slice a1 n1 k1, .slice a2 n2 k2, .slice a3 n3 k3] 33)).alloc (.cells #[.bool vl, .bool vh, .slice a1b n1b k1b, .slice a2b n2b k2b, .slice a3b n3 k3b] 33)) w.heap.size 33 #[.bool vl, .bool vh, .slice a1 n1 k1, .slice a2 n2 k2, .slice a3 n3 k3] := (Box.new _ _ _).alloc _
  have B0 : Box ((w.alloc (.cells #[.bool vl, .bool vh, .slice a1 n1 k1, .slice a2 n2 k2, .slice a3 n3 k3] 33)).alloc (.cells #[.bool vl, .bool vh, .slice a1b n1b k1b, .slice a2b n2b k2b, .slice a3b n3 k3b] 33)) (w.heap.size + 1) 33 #[.bool vl, .bool vh, .slice a1b n1b k1b, .slice a2b n2b k2b, .slice a3b n3 k3b] := by
    have := Box.new (w.alloc (.cells #[.bool vl, .bool vh, .slice a1 n1 k1, .slice a2 n2 k2, .slice a3 n3 k3] 33)) 33 #[.bool vl, .bool vh, .slice a1b n1b k1b, .slice a2b n2b k2b, .slice a3b n3 k3b]
    simpa using this
  have x0 := A0.cell 0 rfl
  have x1 := A0.cell 1 rfl
  have x2 := A0.cell 2 rfl
  have x3 := A0.cell 3 rfl
  have x4 := A0.cell 4 rfl
  have y0 := B0.cell 0 rfl
  have y1 := B0.cell 1 rfl
  have y2 := B0.cell 2 rfl
  have y3 := B0.cell 3 rfl
  have y4 := B0.cell 4 rfl
  have c1 := conv_sl (HS1.out.after hb0)
  have c2 := conv_sl (HS2.out.after hb0)
  have d1 := conv_sl (HS1b.out.after hb0)
  have d2 := conv_sl (HS2b.out.after hb0)
  show Calls _ _ #[.agg #[.bool vl, .bool vh, .slice a1 n1 k1, .slice a2 n2 k2, .slice a3 n3 k3], .agg #[.bool vl, .bool vh, .slice a1b n1b k1b, .slice a2b n2b k2b, .slice a3b n3 k3b]] _ _
  go_enter Tryd.func8, Tryd.ntmps8
  go_wp2_with fail
  go_loopw [5, 48] (fun i k wr => ∃ n : Nat, n ≤ n3 ∧ k = .int .i64 n ∧ Sx.sameL (ks.take n) (ksb.take n) = true ∧ Below w.heap.size w wr ∧ Box wr w.heap.size 33 #[.bool vl, .bool vh, .slice a1 n1 k1, .slice a2 n2 k2, .slice a3 n3 k3] ∧ Box wr (w.heap.size + 1) 33 #[.bool vl, .bool vh, .slice a1b n1b k1b, .slice a2b n2b k2b, .slice a3b n3 k3b]) (fun _ k _ => n3 - (intOf k).toNat)
  case atStart => exact ⟨0, Nat.zero_le _, rfl, rfl, hb0, A0, B0⟩
  case round =>
    obtain ⟨n, hnl, rfl, hcl, hb, hA, hB⟩ := hrel
    have HC := Lib.hid hcl
    clear x0 x1 x2 x3 x4 y0 y1 y2 y3 y4 c1 c2 d1 d2 hcl A0 B0
    by_cases hlt : n < n3
    · obtain ⟨b, o, rfl, hR⟩ := HR.out.rangeB hlt
      obtain ⟨bb, ob, rfl, hRb⟩ := HRb.out.rangeB hlt
      have g1 : n < ks.length := by have := HN3.out; omega
      have g2 : n < ksb.length := by have := HN3b.out; omega
      obtain ⟨ck, hck⟩ : ∃ ck, ck = ks[n].same ksb[n] := ⟨_, rfl⟩
      have HCK := Lib.hid hck
      have IH2 : Hid (∀ w', Below w.heap.size w w' → Calls Tryd.prog 8 #[(K n).val, (Kb n).val] w' fun e w'' => e = .returned (.bool ck) ∧ Below w'.heap.size w' w'') :=
        Lib.hid fun w' hw => by rw [hck]; exact IH.out _ (List.getElem_mem g1) _ _ _ _ ((HK.out n g1).after hw) ((HKb.out n g2).after hw)
      clear hck
      go_upto_region 6 with fail
      refine wp_region_made wr.heap.size wr rfl (by kernel_rfl) (Below.refl _ _) ?_
      refine wpQ_run rfl (.pointer (some ⟨w.heap.size, 4, none⟩)) (fun w hw => by simp [go_sem]) ?_
      simp only [Act.put, List.setIfInBounds_toArray, List.set_cons_zero, List.set_cons_succ]
      refine wpQ_run rfl (.slice (some ⟨b, o, none⟩) n3 k3) (fun w' hw => by simp [go_sem, (hA.after hw).cell 4 rfl]) ?_
      simp only [Act.put, List.setIfInBounds_toArray, List.set_cons_zero, List.set_cons_succ]
      refine wpQ_run rfl (.int .i64 n) (fun w hw => by simp [go_sem]) ?_
      simp only [Act.put, List.setIfInBounds_toArray, List.set_cons_zero, List.set_cons_succ]
      refine wpQ_run rfl (.pointer (some ⟨b, o + n * 5, none⟩)) (fun w hw => by simp [go_sem, hlt]) ?_
      simp only [Act.put, List.setIfInBounds_toArray, List.set_cons_zero, List.set_cons_succ]
      refine wpQ_run rfl (K n).val (fun w' hw => run_load_sv _ rfl _ _ (by simp [go_sem]) _ ((HR.out.after (hb.trans (hw.mono hb.size))).rangeA hlt)) ?_
      simp only [Act.put, List.setIfInBounds_toArray, List.set_cons_zero, List.set_cons_succ]
      refine wpQ_run rfl (.pointer (some ⟨w.heap.size + 1, 4, none⟩)) (fun w hw => by simp [go_sem]) ?_
      simp only [Act.put, List.setIfInBounds_toArray, List.set_cons_zero, List.set_cons_succ]
      refine wpQ_run rfl (.slice (some ⟨bb, ob, none⟩) n3 k3b) (fun w' hw => by simp [go_sem, (hB.after hw).cell 4 rfl]) ?_
      simp only [Act.put, List.setIfInBounds_toArray, List.set_cons_zero, List.set_cons_succ]
      refine wpQ_run rfl (.int .i64 n) (fun w hw => by simp [go_sem]) ?_
      simp only [Act.put, List.setIfInBounds_toArray, List.set_cons_zero, List.set_cons_succ]
      refine wpQ_run rfl (.pointer (some ⟨bb, ob + n * 5, none⟩)) (fun w hw => by simp [go_sem, hlt]) ?_
      simp only [Act.put, List.setIfInBounds_toArray, List.set_cons_zero, List.set_cons_succ]
      refine wpQ_run rfl (Kb n).val (fun w' hw => run_load_sv _ rfl _ _ (by simp [go_sem]) _ ((HRb.out.after (hb.trans (hw.mono hb.size))).rangeA hlt)) ?_
      simp only [Act.put, List.setIfInBounds_toArray, List.set_cons_zero, List.set_cons_succ]
      refine wpQ_callS rfl 8 #[(K n).val, (Kb n).val] (fun w => by simp [go_sem]) (.bool ck) (Nat.le_refl _) (fun w' hw => IH2.out w' (hb.trans (hw.mono hb.size))) ?_
      simp only [Act.put, List.setIfInBounds_toArray, List.set_cons_zero, List.set_cons_succ]
      refine wpQ_run rfl (.bool (!ck)) (fun w hw => by simp [go_sem]) ?_
      simp only [Act.put, List.setIfInBounds_toArray, List.set_cons_zero, List.set_cons_succ]
      intro w1 hb1
      have HX := hb.trans (hb1.mono hb.size)
      have hA1 := hA.after hb1
      have hB1 := hB.after hb1
      cases ck with
      | false =>
        go_wp2_with fail
        go_ret
        exact ⟨by rw [same_def, sameL_no n g1 g2 HCK.out.symm]; simp, HX⟩
      | true =>
        go_wp2_with fail
        go_roundw
        case rel => exact ⟨n + 1, by omega, by go_num, by rw [sameL_snoc n g1 g2, HC.out, ← HCK.out]; rfl, HX, hA1, hB1⟩
        case measure => simp [intOf]; omega
    · go_wp2_with fail
      go_ret
      have hnn : n = n3 := by omega
      subst hnn
      have h5 := HC.out
      rw [List.take_of_length_le (by have := HN3.out; omega), List.take_of_length_le (by have := HN3b.out; omega)] at h5
      exact ⟨by rw [same_def, h5]; simp, hb⟩

end Go.Proofs.YthmigigclmogiaaDoor

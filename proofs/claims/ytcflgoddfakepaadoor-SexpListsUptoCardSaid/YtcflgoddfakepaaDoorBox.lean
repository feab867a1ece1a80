/- Blocks of memory that are known whole: loads and stores of whole arrays and structs. -/
import Derived.Test.YtcflgoddfakepaaDoorReg
import Derived.Deep.Cut
import Derived.OrdersHeld
import Derived.RegionTactic
namespace Go.Proofs.YtcflgoddfakepaaDoor
open Go.RowKit

/-- a variable of an array's or a struct's type, in a block of its own -/
def Box (w : World) (g : Nat) (T : TypeId) (cs : Array Value) : Prop := w.heap[g]? = some (.cells cs T (0, 0))

theorem Box.lt {w : World} {g : Nat} {T : TypeId} {cs : Array Value} (h : Box w g T cs) : g < w.heap.size := by
  rcases Nat.lt_or_ge g w.heap.size with h' | h'
  · exact h'
  · unfold Box at h; simp [Array.getElem?_eq_none h'] at h
theorem Box.below {w w' : World} {g B : Nat} {T : TypeId} {cs : Array Value} (h : Box w g T cs) (hb : Below B w w') (hg : g < B) : Box w' g T cs := (hb.block g hg).trans h
theorem Box.after {w w' : World} {g : Nat} {T : TypeId} {cs : Array Value} (h : Box w g T cs) (hb : Below w.heap.size w w') : Box w' g T cs := h.below hb h.lt
theorem Box.new (w : World) (T : TypeId) (cs : Array Value) : Box (w.alloc (.cells cs T)) w.heap.size T cs := heap_alloc_new _ _
theorem Box.alloc {w : World} {g : Nat} {T : TypeId} {cs : Array Value} (h : Box w g T cs) (o : Obj) : Box (w.alloc o) g T cs := (heap_alloc_old _ _ h.lt).trans h
theorem Box.drew {w : World} {g : Nat} {T : TypeId} {cs : Array Value} (h : Box w g T cs) : Box w.drew g T cs := h
theorem Box.set {w : World} {g : Nat} {T : TypeId} {cs : Array Value} (h : Box w g T cs) (i : Nat) (v : Value) : Box (w.setCell ⟨g, i, none⟩ v) g T (cs.setIfInBounds i v) := heap_setCell_same _ _ _ _ _ _ h
theorem Box.far {w : World} {g : Nat} {T : TypeId} {cs : Array Value} (h : Box w g T cs) (a : Addr) (v : Value) (hne : g ≠ a.block) : Box (w.setCell a v) g T cs := (heap_setCell_other _ _ _ _ hne).trans h
theorem Box.cell {w : World} {g : Nat} {T : TypeId} {cs : Array Value} (h : Box w g T cs) (j : Nat) {v : Value} (hv : cs[j]? = some v) : w.cell? ⟨g, j, none⟩ = some v := (cell_of_row w g j cs T _ h).trans hv
theorem Box.frozen {w : World} {g : Nat} {T : TypeId} {cs : Array Value} (h : Box w g T cs) (j : Nat) : w.frozen? ⟨g, j, none⟩ = false := frozen_of_row w g j cs T h

/-- what is left of a world behind a store into block g -/
structure Stored (w w' : World) (g : Nat) : Prop where
  other : ∀ k, k ≠ g → w'.heap[k]? = w.heap[k]?
  size : w'.heap.size = w.heap.size
  below : ∀ (B : Nat) (W : World), B ≤ g → Below B W w → Below B W w'

theorem Stored.refl (w : World) (g : Nat) : Stored w w g := ⟨fun _ _ => rfl, rfl, fun _ _ _ h => h⟩
theorem Stored.setCell {w w' : World} {g : Nat} (h : Stored w w' g) (i : Nat) (v : Value) : Stored w (w'.setCell ⟨g, i, none⟩ v) g :=
  ⟨fun k hk => (heap_setCell_other _ _ _ _ hk).trans (h.other k hk), by simp [h.size], fun B W hB hb => (h.below B W hB hb).setCell hB _⟩
theorem Stored.box {w w' : World} {g k : Nat} {T : TypeId} {cs : Array Value} (h : Stored w w' g) (hb : Box w k T cs) (hk : k ≠ g) : Box w' k T cs := (h.other k hk).trans hb

theorem setCells_box (g : Nat) (T : TypeId) : ∀ (vs : List Value) (o : Nat) (w : World) (pre : List Value) (post : List Value), pre.length = o → post.length = vs.length → Box w g T (pre ++ post).toArray →
    Box (w.setCells g o vs) g T (pre ++ vs).toArray ∧ Stored w (w.setCells g o vs) g
  | [], o, w, pre, post, _, hl, h => by
    have : post = [] := List.eq_nil_of_length_eq_zero hl
    subst this
    exact ⟨h, Stored.refl _ _⟩
  | v :: vs, o, w, pre, [], _, hl, _ => by cases hl
  | v :: vs, o, w, pre, p :: post, hp, hl, h => by
    have h1 := h.set o v
    have e : (pre ++ p :: post).toArray.setIfInBounds o v = ((pre ++ [v]) ++ post).toArray := by
      subst hp
      simp
    rw [e] at h1
    have h2 := setCells_box g T vs (o + 1) (w.setCell ⟨g, o, none⟩ v) (pre ++ [v]) post (by simp [hp]) (by simpa using hl) h1
    refine ⟨by simpa [World.setCells] using h2.1, ?_⟩
    have h3 := (Stored.refl w g).setCell o v
    exact ⟨fun k hk => (h2.2.other k hk).trans (h3.other k hk), h2.2.size.trans h3.size, fun B W hB hb => h2.2.below B W hB (h3.below B W hB hb)⟩

theorem box_there {w : World} {g : Nat} {T : TypeId} {cs : Array Value} (h : Box w g T cs) : w.there g 0 cs.size := fun j hj => by
  rw [Nat.zero_add]
  exact ⟨by rw [cell_of_row w g j cs T _ h]; simp [hj], h.frozen j⟩

variable {P : Program} {ops : Array Oper}

theorem run_load_box {o : Oper} {a : Act} {w : World} {ty : TypeId} {x : Operand} (ho : o.op = .load ty x)
    {g : Nat} {T : TypeId} {cs : Array Value} (hg : Box w g T cs) (hx : a.eval x = .pointer (some ⟨g, 0, none⟩)) {d : TypeDesc}
    (hu : P.underlying ty = some d) (hd : (match d with | .struct _ | .array _ _ => true | _ => false) = true) (hi : (P.info? ty).map (·.size) = some cs.size) : (execOp a.eval o).run P w = .ok (.value (.agg cs)) w := by
  unfold execOp
  simp only [ho, hx, Instr.loadAt, Instr.sureAddr, Sem.run_bind, Sem.run_pure, Result.andThen_ok, run_loadVar_row w g T ty cs (0, 0) d hg hu hd hi]

theorem wpList_want {rest : List Oper} {o : Oper} {a : Act} {w : World} {Q : Exit → Act → World → Prop} (hgd : Region.wanted o (yielded ops a.tmps) = true)
    (h : ∀ K : Act → World → Prop, (∀ a w, wpList P ops Q rest a w → K a w) → o.wp P a w K Q) : wpList P ops Q (o :: rest) a w :=
  wpList_step fun K hK => by rw [if_pos hgd]; exact h K hK

theorem wpList_load_box {rest : List Oper} {o : Oper} {a : Act} {w : World} {Q : Exit → Act → World → Prop} (hgd : Region.wanted o (yielded ops a.tmps) = true) (ty : TypeId) (x : Operand) (ho : o.op = .load ty x)
    {g : Nat} {T : TypeId} {cs : Array Value} (hg : Box w g T cs) (hx : a.eval x = .pointer (some ⟨g, 0, none⟩)) {d : TypeDesc}
    (hu : P.underlying ty = some d) (hd : (match d with | .struct _ | .array _ _ => true | _ => false) = true) (hi : (P.info? ty).map (·.size) = some cs.size)
    (h : wpList P ops Q rest (a.put o.dst (.agg cs)) w) : wpList P ops Q (o :: rest) a w :=
  wpList_want hgd fun _ hK => wp_load_row ty x ho g hx T cs (0, 0) d hg hu hd hi (hK _ _ h)

theorem wpList_store_box {rest : List Oper} {o : Oper} {a : Act} {w : World} {Q : Exit → Act → World → Prop} (hgd : Region.wanted o (yielded ops a.tmps) = true) (ty : TypeId) (x y : Operand) (ho : o.op = .store ty x y)
    {g : Nat} {T : TypeId} {old cells : Array Value} (hg : Box w g T old) (hx : a.eval x = .pointer (some ⟨g, 0, none⟩)) (hy : a.eval y = .agg cells) (hsz : old.size = cells.size)
    (hi : (P.info? ty).map (·.size) = some cells.size) (h1 : cells.all (·.oneCell') = true)
    (h : ∀ w', Box w' g T cells → Stored w w' g → wpList P ops Q rest (a.put o.dst undef) w') : wpList P ops Q (o :: rest) a w := by
  have hs := setCells_box g T cells.toList 0 w [] old.toList rfl (by simpa using hsz) (by simpa using hg)
  exact wpList_want hgd fun _ hK => wp_store_mid ty x y ho g 0 cells hx hy (hsz ▸ box_there hg) hi h1 (hK _ _ (h _ (by simpa using hs.1) hs.2))

theorem wp_store_box {o : Oper} {a : Act} {w : World} {K : Act → World → Prop} {Q : Exit → Act → World → Prop} (ty : TypeId) (x y : Operand) (ho : o.op = .store ty x y)
    {g : Nat} {T : TypeId} {old cells : Array Value} (hg : Box w g T old) (hx : a.eval x = .pointer (some ⟨g, 0, none⟩)) (hy : a.eval y = .agg cells) (hsz : old.size = cells.size)
    (hi : (P.info? ty).map (·.size) = some cells.size) (h1 : cells.all (·.oneCell') = true)
    (h : ∀ w', Box w' g T cells → Stored w w' g → K (a.put o.dst undef) w') : o.wp P a w K Q := by
  have hs := setCells_box g T cells.toList 0 w [] old.toList rfl (by simpa using hsz) (by simpa using hg)
  exact wp_store_mid ty x y ho g 0 cells hx hy (hsz ▸ box_there hg) hi h1 (h _ (by simpa using hs.1) hs.2)

theorem op_of_drop {i : Nat} {oi : Oper} {tl : List Oper} (hi : ops.toList.drop i = oi :: tl) : ops[i]? = some oi := by
  have h : (ops.toList.drop i)[0]? = some oi := by rw [hi]; rfl
  simpa using h

/-- in a region that draws its order: an operation that yields its value in each world of the class, taken first -/
theorem wpH_take {S : World → Prop} {Q : Exit → Act → World → Prop} {md : Region.Mode} (i : Nat) {oi : Oper} {tl : List Oper} {fuel : Nat} {listed : Array Bool} {a : Act} {w : World} (hi : ops.toList.drop i = oi :: tl)
    (hs : Region.noSelect ops = true) (hf : Region.free md ops listed i = true) (hr : (Region.ready md ops listed).contains i = true) (hgd : Region.wanted oi (yielded ops a.tmps) = true)
    (hQ : ∀ c a w v, Q (.panic c) (a.put oi.dst v) w → Q (.panic c) a w) (v : Value) (hy : ∀ w, S w → (execOp a.eval oi).run P w = .ok (.value v) w) (hS : S w)
    (h : wpAnyH P md ops Q S fuel (listed.setIfInBounds i true) (a.put oi.dst v) w) : wpAnyH P md ops Q S (fuel + 1) listed a w :=
  wpAnyH_take (op_of_drop hi) hs hf hr (fun c a w => hQ c a w v) (.inl ⟨hgd, hy⟩) hS h

/-- .. one whose guard shuts it out -/
theorem wpH_skip {S : World → Prop} {Q : Exit → Act → World → Prop} {md : Region.Mode} (i : Nat) {oi : Oper} {tl : List Oper} {fuel : Nat} {listed : Array Bool} {a : Act} {w : World} (hi : ops.toList.drop i = oi :: tl)
    (hs : Region.noSelect ops = true) (hf : Region.free md ops listed i = true) (hr : (Region.ready md ops listed).contains i = true) (hgd : Region.wanted oi (yielded ops a.tmps) = false)
    (hQ : ∀ c a w v, Q (.panic c) (a.put oi.dst v) w → Q (.panic c) a w) (hS : S w)
    (h : wpAnyH P md ops Q S fuel (listed.setIfInBounds i true) (a.put oi.dst undef) w) : wpAnyH P md ops Q S (fuel + 1) listed a w :=
  wpAnyH_take (op_of_drop hi) hs hf hr (fun c a w => hQ c a w undef) (.inr ⟨hgd, rfl⟩) hS h

/-- the one operation that may come up comes up -/
theorem wpH_one {S : World → Prop} {Q : Exit → Act → World → Prop} {md : Region.Mode} (i : Nat) {oi : Oper} {tl : List Oper} {fuel : Nat} {listed : Array Bool} {a : Act} {w : World} (hi : ops.toList.drop i = oi :: tl)
    (hr : Region.ready md ops listed = [i]) (hgd : Region.wanted oi (yielded ops a.tmps) = true) (h : oi.wp P a w (fun a' w' => S w' ∧ wpAnyH P md ops Q S fuel (listed.setIfInBounds i true) a' w') Q) : wpAnyH P md ops Q S (fuel + 1) listed a w :=
  wpAnyH_all hr (by simp) (fun j hj => by
    obtain rfl : j = i := by simpa using hj
    exact wpOp_step (op_of_drop hi) (fun K' hK => by
      rw [if_pos hgd]
      exact Oper.wp_mono hK h))

/-- the same, a store of a whole array or struct -/
theorem wpH_store_box {S : World → Prop} {Q : Exit → Act → World → Prop} {md : Region.Mode} (i : Nat) {oi : Oper} {tl : List Oper} {fuel : Nat} {listed : Array Bool} {a : Act} {w : World} (hi : ops.toList.drop i = oi :: tl)
    (hr : Region.ready md ops listed = [i]) (hgd : Region.wanted oi (yielded ops a.tmps) = true) (ty : TypeId) (x y : Operand) (ho : oi.op = .store ty x y)
    {g : Nat} {T : TypeId} {old cells : Array Value} (hg : Box w g T old) (hx : a.eval x = .pointer (some ⟨g, 0, none⟩)) (hy : a.eval y = .agg cells) (hsz : old.size = cells.size)
    (hi' : (P.info? ty).map (·.size) = some cells.size) (h1 : cells.all (·.oneCell') = true)
    (h : ∀ w', Box w' g T cells → Stored w w' g → S w' ∧ wpAnyH P md ops Q S fuel (listed.setIfInBounds i true) (a.put oi.dst undef) w') : wpAnyH P md ops Q S (fuel + 1) listed a w :=
  wpH_one i hi hr hgd (wp_store_box ty x y ho hg hx hy hsz hi' h1 h)

theorem wpList_value {rest : List Oper} {o : Oper} {a : Act} {w : World} {Q : Exit → Act → World → Prop} (hgd : Region.wanted o (yielded ops a.tmps) = true) (v : Value)
    (hr : (execOp a.eval o).run P w = .ok (.value v) w) (h : wpList P ops Q rest (a.put o.dst v) w) : wpList P ops Q (o :: rest) a w :=
  wpList_want hgd fun _ hK => by
    unfold Oper.wp
    rw [hr]
    exact hK _ _ h

theorem wpList_enter {rest : List Oper} {o : Oper} {a : Act} {w : World} {Q : Exit → Act → World → Prop} (hgd : Region.wanted o (yielded ops a.tmps) = true) (f : FuncId) (args : Array Value)
    (hr : (execOp a.eval o).run P w = .ok (.enter f args) w) (v : Value) (R : World → Prop) (hc : Calls P f args w fun e w' => e = .returned v ∧ R w')
    (h : ∀ w', R w' → wpList P ops Q rest (a.put o.dst v) w') : wpList P ops Q (o :: rest) a w :=
  wpList_want hgd fun _ hK => by
    unfold Oper.wp
    rw [hr]
    refine hc.mono fun e w' he => ?_
    obtain ⟨rfl, hw⟩ := he
    exact hK _ _ (h w' hw)

theorem wpList_alloc_box {rest : List Oper} {o : Oper} {a : Act} {w : World} {Q : Exit → Act → World → Prop} (hgd : Region.wanted o (yielded ops a.tmps) = true) (ty : TypeId) (ho : o.op = .alloc ty) (cells : Array Value)
    (hr : ∀ w, (Instr.alloc ty true (.tuple #[])).run P w = .ok (.pointer (some ⟨w.heap.size, 0, none⟩)) (w.alloc (.cells cells ty)))
    (h : wpList P ops Q rest (a.put o.dst (.pointer (some ⟨w.heap.size, 0, none⟩))) (w.alloc (.cells cells ty))) : wpList P ops Q (o :: rest) a w :=
  wpList_want hgd fun _ hK => by
    unfold Oper.wp execOp
    simp only [ho, Sem.run_bind, Sem.run_pure, Result.andThen_ok, hr]
    exact hK _ _ h

theorem wpQ_load_box {W : World} {B : Nat} {Q : Act → Prop} {a : Act} {o : Oper} {rest : List Oper} (hgd : Region.wanted o (yielded ops a.tmps) = true) (ty : TypeId) (x : Operand) (ho : o.op = .load ty x)
    {g : Nat} {T : TypeId} {cs : Array Value} (hg : Box W g T cs) (hx : a.eval x = .pointer (some ⟨g, 0, none⟩)) (hgB : g < B) {d : TypeDesc}
    (hu : P.underlying ty = some d) (hd : (match d with | .struct _ | .array _ _ => true | _ => false) = true) (hi : (P.info? ty).map (·.size) = some cs.size)
    (h : wpQuiet P ops (fun w' => Below B W w') Q rest (a.put o.dst (.agg cs))) : wpQuiet P ops (fun w' => Below B W w') Q (o :: rest) a :=
  wpQ_load_row hgd ty x ho g hx T cs (0, 0) d hg hgB hu hd hi h

theorem box_result {fn : Func} {p : Tmp} {ty : TypeId} (h : fn.results = #[.cell p ty]) (tmps : Array Value) (w : World) {g : Nat} {T : TypeId} {cs : Array Value} {d : TypeDesc}
    (hp : tmps.getD p undef = .pointer (some ⟨g, 0, none⟩)) (hg : Box w g T cs) (hu : P.underlying ty = some d) (hd : (match d with | .struct _ | .array _ _ => true | _ => false) = true) (hi : (P.info? ty).map (·.size) = some cs.size) :
    (results fn tmps).run P w = .ok (.agg cs) w :=
  results_cell_row h tmps w g T cs (0, 0) d hp hg hu hd hi
theorem box_result2 {fn : Func} {p q : Tmp} {ty : TypeId} (h : fn.results = #[.cell p ty, .tmp q]) (tmps : Array Value) (w : World) {g : Nat} {T : TypeId} {cs : Array Value} {d : TypeDesc}
    (hp : tmps.getD p undef = .pointer (some ⟨g, 0, none⟩)) (hg : Box w g T cs) (hu : P.underlying ty = some d) (hd : (match d with | .struct _ | .array _ _ => true | _ => false) = true) (hi : (P.info? ty).map (·.size) = some cs.size) :
    (results fn tmps).run P w = .ok (.tuple #[.agg cs, tmps.getD q undef]) w := by
  have hp' : tmps[p]?.getD undef = .pointer (some ⟨g, 0, none⟩) := by simpa using hp
  simp [results, h, hp', asAddr, run_loadVar_row w g T ty cs (0, 0) d hg hu hd hi]
theorem box_result3 {fn : Func} {p q r : Tmp} {ty ty' : TypeId} (h : fn.results = #[.cell p ty, .cell q ty', .tmp r]) (tmps : Array Value) (w : World) {g g' : Nat} {T T' : TypeId} {cs cs' : Array Value} {d d' : TypeDesc}
    (hp : tmps.getD p undef = .pointer (some ⟨g, 0, none⟩)) (hg : Box w g T cs) (hu : P.underlying ty = some d) (hd : (match d with | .struct _ | .array _ _ => true | _ => false) = true) (hi : (P.info? ty).map (·.size) = some cs.size)
    (hp' : tmps.getD q undef = .pointer (some ⟨g', 0, none⟩)) (hg' : Box w g' T' cs') (hu' : P.underlying ty' = some d') (hd' : (match d' with | .struct _ | .array _ _ => true | _ => false) = true) (hi' : (P.info? ty').map (·.size) = some cs'.size) :
    (results fn tmps).run P w = .ok (.tuple #[.agg cs, .agg cs', tmps.getD r undef]) w := by
  have h1 : tmps[p]?.getD undef = .pointer (some ⟨g, 0, none⟩) := by simpa using hp
  have h2 : tmps[q]?.getD undef = .pointer (some ⟨g', 0, none⟩) := by simpa using hp'
  simp [results, h, h1, h2, asAddr, run_loadVar_row w g T ty cs (0, 0) d hg hu hd hi, run_loadVar_row w g' T' ty' cs' (0, 0) d' hg' hu' hd' hi']
end Go.Proofs.YtcflgoddfakepaaDoor

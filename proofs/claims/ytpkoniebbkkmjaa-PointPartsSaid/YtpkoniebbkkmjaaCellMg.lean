/- Drawn regions: one cell stored; values that must be read ahead of a store. -/
import Derived.Test.YtpkoniebbkkmjaaPnG2
import Derived.Laws.CopyOwn
namespace Go.Proofs.Ytpkoniebbkkmjaa
open Go.RowKit

variable {P : Program} {ops : Array Oper} {Q : Exit → Act → World → Prop} {md : Region.Mode} {S : World → Prop}

theorem wp_store_cell {o : Oper} {a : Act} {w : World} {K : Act → World → Prop} (ty : TypeId) (x y : Operand) (ho : o.op = .store ty x y)
    {b off : Nat} {k : IntKind} {n : Int} (hx : a.eval x = .pointer (some ⟨b, off, none⟩)) (hy : a.eval y = .int k n) {u : Value} (hc : w.cell? ⟨b, off, none⟩ = some u) (hf : w.frozen? ⟨b, off, none⟩ = false) (hz : ∀ w, (sizeOf ty).run P w = .ok 1 w)
    (h : K (a.put o.dst undef) (w.setCell ⟨b, off, none⟩ (.int k n))) : o.wp P a w K Q := by
  unfold Oper.wp execOp
  simp only [ho, hx, hy]
  simp [go_sem, hz, hc, hf]
  exact h

theorem Stored.one (w : World) (g j : Nat) (v : Value) : Stored w (w.setCell ⟨g, j, none⟩ v) g := (Stored.refl w g).setCell j v

/-- a store of one cell of a block that is known whole -/
theorem wpU_store_cell (i : Nat) {oi : Oper} {tl : List Oper} {fuel : Nat} {listed : Array Bool} {a : Act} {w : World} (hi : ops.toList.drop i = oi :: tl) (hr : Region.ready md ops listed = [i]) (hgd : Region.wanted oi (yielded ops a.tmps) = true)
    (ty : TypeId) (x y : Operand) (ho : oi.op = .store ty x y) {g : Nat} {T : TypeId} {old : Array Value} (hg : Box w g T old) (j : Nat) {k : IntKind} {n : Int} (hx : a.eval x = .pointer (some ⟨g, j, none⟩)) (hy : a.eval y = .int k n) (hj : j < old.size) (hz : ∀ w, (sizeOf ty).run P w = .ok 1 w)
    (h : ∀ w1 w', Below w.heap.size w w1 → S w1 → Box w' g T (old.setIfInBounds j (.int k n)) → Stored w1 w' g → S w' ∧ wpU P md ops Q S fuel (listed.setIfInBounds i true) (a.put oi.dst undef) w') : wpU P md ops Q S (fuel + 1) listed a w :=
  wpU_one i hi hr hgd (fun w1 b1 s1 =>
    have h1 := hg.after b1
    wp_store_cell ty x y ho hx hy (h1.cell j (Array.getElem?_eq_getElem hj)) (h1.frozen j) hz (h w1 _ b1 s1 (h1.set j _) (Stored.one _ _ _ _)))

theorem wpList_store_cell {rest : List Oper} {o : Oper} {a : Act} {w : World} (hgd : Region.wanted o (yielded ops a.tmps) = true) (ty : TypeId) (x y : Operand) (ho : o.op = .store ty x y)
    {g : Nat} {T : TypeId} {old : Array Value} (hg : Box w g T old) (j : Nat) {k : IntKind} {n : Int} (hx : a.eval x = .pointer (some ⟨g, j, none⟩)) (hy : a.eval y = .int k n) (hj : j < old.size) (hz : ∀ w, (sizeOf ty).run P w = .ok 1 w)
    (h : ∀ w', Box w' g T (old.setIfInBounds j (.int k n)) → Stored w w' g → wpList P ops Q rest (a.put o.dst undef) w') : wpList P ops Q (o :: rest) a w :=
  wpList_want hgd fun _ hK => wp_store_cell ty x y ho hx hy (hg.cell j (Array.getElem?_eq_getElem hj)) (hg.frozen j) hz (hK _ _ (h _ (hg.set j _) (Stored.one _ _ _ _)))

/-- the one that may come up yields a value, in whatever world has come of this one by more memory -/
theorem wpU_oneval (i : Nat) {oi : Oper} {tl : List Oper} {fuel : Nat} {listed : Array Bool} {a : Act} {w : World} (hi : ops.toList.drop i = oi :: tl) (hr : Region.ready md ops listed = [i]) (hgd : Region.wanted oi (yielded ops a.tmps) = true)
    (v : Value) (hy : ∀ w1, Below w.heap.size w w1 → S w1 → (execOp a.eval oi).run P w1 = .ok (.value v) w1)
    (h : wpU P md ops Q S fuel (listed.setIfInBounds i true) (a.put oi.dst v) w) : wpU P md ops Q S (fuel + 1) listed a w :=
  wpU_one i hi hr hgd (fun w1 b1 s1 => by
    unfold Oper.wp
    rw [hy w1 b1 s1]
    exact ⟨s1, wpU_more b1 h⟩)

/-- either of two may come up, each yields a value -/
theorem wpU_fork (i j : Nat) {oi oj : Oper} {tl tl' : List Oper} {fuel : Nat} {listed : Array Bool} {a : Act} {w : World} (hi : ops.toList.drop i = oi :: tl) (hj : ops.toList.drop j = oj :: tl') (hr : Region.ready md ops listed = [i, j]) (v u : Value)
    (hgd : Region.wanted oi (yielded ops a.tmps) = true) (hgd' : Region.wanted oj (yielded ops a.tmps) = true)
    (hy : ∀ w1, Below w.heap.size w w1 → S w1 → (execOp a.eval oi).run P w1 = .ok (.value v) w1) (hy' : ∀ w1, Below w.heap.size w w1 → S w1 → (execOp a.eval oj).run P w1 = .ok (.value u) w1)
    (h : wpU P md ops Q S fuel (listed.setIfInBounds i true) (a.put oi.dst v) w) (h' : wpU P md ops Q S fuel (listed.setIfInBounds j true) (a.put oj.dst u) w) : wpU P md ops Q S (fuel + 1) listed a w :=
  wpU_two i j hi hj hr hgd hgd'
    (fun w1 b1 s1 => by
      unfold Oper.wp
      rw [hy w1 b1 s1]
      exact ⟨s1, wpU_more b1 h⟩)
    (fun w1 b1 s1 => by
      unfold Oper.wp
      rw [hy' w1 b1 s1]
      exact ⟨s1, wpU_more b1 h'⟩)

theorem stored_setRow {w : World} {g : Nat} {T : TypeId} {old : Array Value} (hg : Box w g T old) (cs : Array Value) : Box (w.setRow g cs) g T cs ∧ Stored w (w.setRow g cs) g :=
  ⟨setRow_heap w g old cs T (0, 0) hg, ⟨fun k hk => setRow_other w g k cs hk, by simp, fun _ _ hB hb => below_setRow hb hB cs⟩⟩

theorem wp_copy_box {o : Oper} {a : Act} {w : World} {K : Act → World → Prop} (d s : Operand) (t e : TypeId) (ho : o.op = .call { callee := .builtin .copy, args := #[d, s], argTypes := #[t, t] })
    {g g' : Nat} {T T' : TypeId} {old src : Array Value} (hg : Box w g T old) (hg' : Box w g' T' src) {n c c' : Nat} (hd : a.eval d = .slice (some ⟨g, 0, none⟩) n c) (hs : a.eval s = .slice (some ⟨g', 0, none⟩) src.size c')
    (hu : P.underlying t = some (.slice e)) (hz : (P.info? e).map (·.size) = some 1) (hle : src.size ≤ n) (hn : n ≤ old.size) (h1 : ∀ v ∈ src.toList, v.oneCell' = true)
    (h : ∀ w', Box w' g T (src.toList ++ old.toList.drop src.size).toArray → Stored w w' g → K (a.put o.dst (.int .i64 src.size)) w') : o.wp P a w K Q := by
  have hrun := run_copy_row (P := P) w t t o.type e g 0 n c ⟨g', 0, none⟩ src.size c' old T src.toList hu hz hg (by rw [Array.length_toList]; exact (Nat.min_eq_left hle).symm)
    (fun j v hv => by
      rw [Addr.add_lit, Nat.zero_add]
      exact hg'.cell j (by simpa using hv)) (by rw [Array.length_toList]; omega) h1
  unfold Oper.wp
  simp [execOp, ho, resolve, invoke, builtin, hd, hs, hrun, Result.andThen]
  have h2 := stored_setRow hg (src.toList ++ old.toList.drop src.size).toArray
  exact h _ h2.1 h2.2

theorem wpU_copy_box (i : Nat) {oi : Oper} {tl : List Oper} {fuel : Nat} {listed : Array Bool} {a : Act} {w : World} (hi : ops.toList.drop i = oi :: tl) (hr : Region.ready md ops listed = [i]) (hgd : Region.wanted oi (yielded ops a.tmps) = true)
    (d s : Operand) (t e : TypeId) (ho : oi.op = .call { callee := .builtin .copy, args := #[d, s], argTypes := #[t, t] })
    {g g' : Nat} {T T' : TypeId} {old src : Array Value} (hg : Box w g T old) (hg' : Box w g' T' src) {n c c' : Nat} (hd : a.eval d = .slice (some ⟨g, 0, none⟩) n c) (hs : a.eval s = .slice (some ⟨g', 0, none⟩) src.size c')
    (hu : P.underlying t = some (.slice e)) (hz : (P.info? e).map (·.size) = some 1) (hle : src.size ≤ n) (hn : n ≤ old.size) (h1 : ∀ v ∈ src.toList, v.oneCell' = true)
    (h : ∀ w1 w', Below w.heap.size w w1 → S w1 → Box w' g T (src.toList ++ old.toList.drop src.size).toArray → Stored w1 w' g → S w' ∧ wpU P md ops Q S fuel (listed.setIfInBounds i true) (a.put oi.dst (.int .i64 src.size)) w') : wpU P md ops Q S (fuel + 1) listed a w :=
  wpU_one i hi hr hgd (fun w1 b1 s1 => wp_copy_box d s t e ho (hg.after b1) (hg'.after b1) hd hs hu hz hle hn h1 (fun w' hb st => h w1 w' b1 s1 hb st))

/-- a call that always hands back the same, in each world of the class -/
theorem wpU_callS (i : Nat) {oi : Oper} {tl : List Oper} {fuel : Nat} {listed : Array Bool} {a : Act} {w : World} (hB : Keeps S) (hi : ops.toList.drop i = oi :: tl)
    (hs : Region.noSelect ops = true) (hf : Region.free md ops listed i = true) (hr : (Region.ready md ops listed).contains i = true) (hgd : Region.wanted oi (yielded ops a.tmps) = true)
    (hQ : ∀ c a w v, Q (.panic c) (a.put oi.dst v) w → Q (.panic c) a w) (f : FuncId) (args : Array Value) (hrun : ∀ w, (execOp a.eval oi).run P w = .ok (.enter f args) w) (v : Value)
    (hc : ∀ w, S w → Calls P f args w fun e w' => e = .returned v ∧ Below w.heap.size w w')
    (h : wpU P md ops Q S fuel (listed.setIfInBounds i true) (a.put oi.dst v) w) : wpU P md ops Q S (fuel + 1) listed a w :=
  wpU_first (op_of_drop hi) (Region.noSelect_spec hs) (fun c a w => hQ c a w v) hB fuel listed a w (Region.free_spec (op_of_drop hi) hf) (by simpa using hr)
    (.inl ⟨hgd, fun w hw => by rw [hrun w]; exact ⟨rfl, hc w hw⟩⟩) h
end Go.Proofs.Ytpkoniebbkkmjaa

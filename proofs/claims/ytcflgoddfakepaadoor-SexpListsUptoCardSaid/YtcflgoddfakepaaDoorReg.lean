/- Regions that draw their order, whose operations leave alone all memory below a bound: one walk in the order of the text. -/
import Derived.WalkKit
import Derived.Laws.Rows
import Derived.Deep.MidRow
import Derived.Deep.Quiet
import Derived.Below
namespace Go.Proofs.YtcflgoddfakepaaDoor
open Go.RowKit

variable {P : Program} {ops : Array Oper} {W : World} {B : Nat}

theorem wp_region_made {id : Nat} {Q : Exit → Act → World → Prop} {a : Act} {w : World} {l : List Oper} (B : Nat) (W : World) (hm : P.follows .mixedOrders = true) (hB : Region.lexB .any l.toArray = true) (h0 : Below B W w)
    (h : wpQuiet P l.toArray (fun w' => Below B W w') (fun a' => ∀ w', Below B W w' → Q .normal a' w') l a) : (Code.region id l.toArray true).wp P Q a w :=
  wp_region_quiet (C := fun w' => Below B W w') hm hB h0.drew (by simpa using h)

theorem wpQ_plain {C : World → Prop} {Q : Act → Prop} {a : Act} {o : Oper} {rest : List Oper} (hgd : Region.wanted o (yielded ops a.tmps) = true) (h : o.quiet P a C (wpQuiet P ops C Q rest)) : wpQuiet P ops C Q (o :: rest) a := by
  unfold wpQuiet
  rw [if_pos hgd]
  exact h

/-- an operation whose run is known in each world of the class -/
theorem wpQ_run {C : World → Prop} {Q : Act → Prop} {a : Act} {o : Oper} {rest : List Oper} (hgd : Region.wanted o (yielded ops a.tmps) = true) (v : Value) (hr : ∀ w, C w → (execOp a.eval o).run P w = .ok (.value v) w)
    (h : wpQuiet P ops C Q rest (a.put o.dst v)) : wpQuiet P ops C Q (o :: rest) a :=
  wpQ_plain hgd ⟨v, fun w hw => by unfold Oper.quietAt; rw [hr w hw]; exact ⟨rfl, rfl⟩, h⟩

/-- a whole block is loaded -/
theorem wpQ_load_row {Q : Act → Prop} {a : Act} {o : Oper} {rest : List Oper} (hgd : Region.wanted o (yielded ops a.tmps) = true) (ty : TypeId) (x : Operand) (ho : o.op = .load ty x)
    (g : Nat) (hx : a.eval x = .pointer (some ⟨g, 0, none⟩)) (t : TypeId) (cs : Array Value) (fr : Nat × Nat) (d : TypeDesc) (hg : W.heap[g]? = some (.cells cs t fr)) (hgB : g < B)
    (hu : P.underlying ty = some d) (hd : (match d with | .struct _ | .array _ _ => true | _ => false) = true) (hi : (P.info? ty).map (·.size) = some cs.size)
    (h : wpQuiet P ops (fun w' => Below B W w') Q rest (a.put o.dst (.agg cs))) : wpQuiet P ops (fun w' => Below B W w') Q (o :: rest) a :=
  wpQ_run hgd _ (fun w hw => by
    unfold execOp
    simp only [ho, hx, Instr.loadAt, Instr.sureAddr, Sem.run_bind, Sem.run_pure, Result.andThen_ok, run_loadVar_row w g t ty cs fr d ((hw.block g hgB).trans hg) hu hd hi]) h

/-- some cells in the midst of a block are loaded -/
theorem wpQ_load_mid {Q : Act → Prop} {a : Act} {o : Oper} {rest : List Oper} (hgd : Region.wanted o (yielded ops a.tmps) = true) (ty : TypeId) (x : Operand) (ho : o.op = .load ty x)
    (b k : Nat) (hx : a.eval x = .pointer (some ⟨b, k, none⟩)) (cs : List Value) (d : TypeDesc) (hS : W.rangeAt b k cs) (hb : b < B)
    (hu : P.underlying ty = some d) (hd : d.isRow = true) (hi : (P.info? ty).map (·.size) = some cs.length)
    (h : wpQuiet P ops (fun w' => Below B W w') Q rest (a.put o.dst (.agg cs.toArray))) : wpQuiet P ops (fun w' => Below B W w') Q (o :: rest) a :=
  wpQ_run hgd _ (fun w hw => by
    unfold execOp
    simp only [ho, hx, Instr.loadAt, Instr.sureAddr, Sem.run_bind, Sem.run_pure, Result.andThen_ok, run_loadVar_mid w b k ty cs d (fun j v hv => (hw.cell (p := ⟨b, k + j, none⟩) hb).trans (hS j v hv)) hu hd hi]) h

/-- a call by its contract -/
theorem wpQ_call {Q : Act → Prop} {a : Act} {o : Oper} {rest : List Oper} (hgd : Region.wanted o (yielded ops a.tmps) = true) (f : FuncId) (args : Array Value) (hr : ∀ w, (execOp a.eval o).run P w = .ok (.enter f args) w) (v : Value) (hB : B ≤ W.heap.size)
    (hc : ∀ w, Calls P f args w fun e w' => e = .returned v ∧ Below w.heap.size w w')
    (h : wpQuiet P ops (fun w' => Below B W w') Q rest (a.put o.dst v)) : wpQuiet P ops (fun w' => Below B W w') Q (o :: rest) a :=
  wpQ_plain hgd ⟨v, fun w hw => by
    unfold Oper.quietAt
    rw [hr w]
    exact ⟨rfl, (hc w).mono fun e w'' ⟨he, hb⟩ => ⟨he, hw.trans (hb.mono (by have := hw.size; omega))⟩⟩, h⟩

theorem wpQ_move {C : World → Prop} {Q : Act → Prop} {a : Act} {o : Oper} {rest : List Oper} (hgd : Region.wanted o (yielded ops a.tmps) = true) (x : Operand) (ho : o.op = .assign x ∨ o.op = .move x)
    (h : wpQuiet P ops C Q rest (a.put o.dst (a.eval x))) : wpQuiet P ops C Q (o :: rest) a :=
  wpQ_run hgd _ (fun w _ => by unfold execOp; rcases ho with ho | ho <;> simp only [ho] <;> rfl) h

end Go.Proofs.YtcflgoddfakepaaDoor

/- A call in a region that draws its order and only reads: its contract asked of the worlds of the class alone. -/
import Derived.Test.YtoadpeigomkgiaaDoorOrdD
namespace Go.Proofs.YtoadpeigomkgiaaDoor
open Go.RowKit
theorem wpQ_callB {P : Program} {ops : Array Oper} {B : Nat} {W : World} {Q : Act → Prop} {a : Act} {o : Oper} {rest : List Oper} (hgd : Region.wanted o (yielded ops a.tmps) = true) (f : FuncId) (args : Array Value) (hr : ∀ w, (execOp a.eval o).run P w = .ok (.enter f args) w) (v : Value) (hB : B ≤ W.heap.size)
    (hc : ∀ w, Below B W w → Calls P f args w fun e w' => e = .returned v ∧ Below w.heap.size w w')
    (h : wpQuiet P ops (fun w' => Below B W w') Q rest (a.put o.dst v)) : wpQuiet P ops (fun w' => Below B W w') Q (o :: rest) a :=
  wpQ_plain hgd ⟨v, fun w hw => by
    unfold Oper.quietAt
    rw [hr w]
    exact ⟨rfl, (hc w hw).mono fun e w'' ⟨he, hb⟩ => ⟨he, hw.trans (hb.mono (by have := hw.size; omega))⟩⟩, h⟩
theorem wpQ_nil {P : Program} {ops : Array Oper} {C : World → Prop} {Q : Act → Prop} {a : Act} (h : Q a) : wpQuiet P ops C Q [] a := h
end Go.Proofs.YtoadpeigomkgiaaDoor

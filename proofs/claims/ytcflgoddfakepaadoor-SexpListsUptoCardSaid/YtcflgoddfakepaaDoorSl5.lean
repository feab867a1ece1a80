/- Regions that draw their order: a call, or a variable made, whichever comes up. -/
import Derived.Test.YtcflgoddfakepaaDoorSl4
namespace Go.Proofs.YtcflgoddfakepaaDoor
open Go.RowKit

variable {P : Program} {ops : Array Oper}

theorem run_alloc_box {o : Oper} {a : Act} {w : World} {ty : TypeId} (ho : o.op = .alloc ty) (cells : Array Value)
    (hr : (Instr.alloc ty true (.tuple #[])).run P w = .ok (.pointer (some ⟨w.heap.size, 0, none⟩)) (w.alloc (.cells cells ty))) :
    (execOp a.eval o).run P w = .ok (.value (.pointer (some ⟨w.heap.size, 0, none⟩))) (w.alloc (.cells cells ty)) := by
  unfold execOp
  simp only [ho, Sem.run_bind, Sem.run_pure, Result.andThen_ok, hr]

theorem wpH_enter_or_run {S : World → Prop} {Q : Exit → Act → World → Prop} {md : Region.Mode} (i j : Nat) {oi oj : Oper} {tl tl' : List Oper} {fuel : Nat} {listed : Array Bool} {a : Act} {w : World} (hi : ops.toList.drop i = oi :: tl) (hj : ops.toList.drop j = oj :: tl')
    (hr : Region.ready md ops listed = [i, j]) (hgd : Region.wanted oi (yielded ops a.tmps) = true) (hgd' : Region.wanted oj (yielded ops a.tmps) = true)
    (f : FuncId) (args : Array Value) (hrun : (execOp a.eval oi).run P w = .ok (.enter f args) w) (R : Ending → World → Prop) (hc : Calls P f args w R)
    (v : Value) (w' : World) (hrun' : (execOp a.eval oj).run P w = .ok (.value v) w') (hS : S w')
    (h : ∀ e w', R e w' → ∃ v, e = .returned v ∧ S w' ∧ wpAnyH P md ops Q S fuel (listed.setIfInBounds i true) (a.put oi.dst v) w')
    (h' : wpAnyH P md ops Q S fuel (listed.setIfInBounds j true) (a.put oj.dst v) w') : wpAnyH P md ops Q S (fuel + 1) listed a w :=
  wpAnyH_all hr (by simp) (fun k hk => by
    rcases List.mem_cons.1 hk with rfl | hk
    · exact wpOp_step (op_of_drop hi) (fun K' hK => by
        rw [if_pos hgd]
        unfold Oper.wp
        rw [hrun]
        refine hc.mono fun e w' he => ?_
        obtain ⟨v, rfl, hv⟩ := h e w' he
        exact hK _ _ hv)
    · obtain rfl : k = j := by simpa using hk
      exact wpOp_step (op_of_drop hj) (fun K' hK => by rw [if_pos hgd']; unfold Oper.wp; rw [hrun']; exact hK _ _ ⟨hS, h'⟩))
end Go.Proofs.YtcflgoddfakepaaDoor

/- Regions that draw their order: a value or a call, whichever comes up. -/
import Derived.Test.YtcflgoddfakepaaDoorSl3
namespace Go.Proofs.YtcflgoddfakepaaDoor
open Go.RowKit

variable {P : Program} {ops : Array Oper}

theorem wpH_run_or_enter {S : World → Prop} {Q : Exit → Act → World → Prop} {md : Region.Mode} (i j : Nat) {oi oj : Oper} {tl tl' : List Oper} {fuel : Nat} {listed : Array Bool} {a : Act} {w : World} (hi : ops.toList.drop i = oi :: tl) (hj : ops.toList.drop j = oj :: tl')
    (hr : Region.ready md ops listed = [i, j]) (hgd : Region.wanted oi (yielded ops a.tmps) = true) (hgd' : Region.wanted oj (yielded ops a.tmps) = true)
    (v : Value) (hrun : (execOp a.eval oi).run P w = .ok (.value v) w) (hS : S w)
    (f : FuncId) (args : Array Value) (hrun' : (execOp a.eval oj).run P w = .ok (.enter f args) w) (R : Ending → World → Prop) (hc : Calls P f args w R)
    (h : wpAnyH P md ops Q S fuel (listed.setIfInBounds i true) (a.put oi.dst v) w)
    (h' : ∀ e w', R e w' → ∃ v, e = .returned v ∧ S w' ∧ wpAnyH P md ops Q S fuel (listed.setIfInBounds j true) (a.put oj.dst v) w') : wpAnyH P md ops Q S (fuel + 1) listed a w :=
  wpAnyH_all hr (by simp) (fun k hk => by
    rcases List.mem_cons.1 hk with rfl | hk
    · exact wpOp_step (op_of_drop hi) (fun K' hK => by rw [if_pos hgd]; unfold Oper.wp; rw [hrun]; exact hK _ _ ⟨hS, h⟩)
    · obtain rfl : k = j := by simpa using hk
      exact wpOp_step (op_of_drop hj) (fun K' hK => by
        rw [if_pos hgd']
        unfold Oper.wp
        rw [hrun']
        refine hc.mono fun e w' he => ?_
        obtain ⟨v, rfl, hv⟩ := h' e w' he
        exact hK _ _ hv))
end Go.Proofs.YtcflgoddfakepaaDoor

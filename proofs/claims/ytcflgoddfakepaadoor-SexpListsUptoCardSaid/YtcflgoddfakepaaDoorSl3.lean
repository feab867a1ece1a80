/- Regions that draw their order and end in an append. -/
import Derived.Test.YtcflgoddfakepaaDoorBox
import Derived.Test.YtcflgoddfakepaaDoorSl2
namespace Go.Proofs.YtcflgoddfakepaaDoor
open Go.RowKit

variable {P : Program} {ops : Array Oper}

/-- the one operation that may come up yields a value, in another world -/
theorem wpH_run {S : World → Prop} {Q : Exit → Act → World → Prop} {md : Region.Mode} (i : Nat) {oi : Oper} {tl : List Oper} {fuel : Nat} {listed : Array Bool} {a : Act} {w : World} (hi : ops.toList.drop i = oi :: tl)
    (hr : Region.ready md ops listed = [i]) (hgd : Region.wanted oi (yielded ops a.tmps) = true) (v : Value) (w' : World) (hrun : (execOp a.eval oi).run P w = .ok (.value v) w')
    (hS : S w') (h : wpAnyH P md ops Q S fuel (listed.setIfInBounds i true) (a.put oi.dst v) w') : wpAnyH P md ops Q S (fuel + 1) listed a w :=
  wpH_one i hi hr hgd (by unfold Oper.wp; rw [hrun]; exact ⟨hS, h⟩)

/-- either of two may come up, each yields a value -/
theorem wpH_two_runs {S : World → Prop} {Q : Exit → Act → World → Prop} {md : Region.Mode} (i j : Nat) {oi oj : Oper} {tl tl' : List Oper} {fuel : Nat} {listed : Array Bool} {a : Act} {w : World} (hi : ops.toList.drop i = oi :: tl) (hj : ops.toList.drop j = oj :: tl')
    (hr : Region.ready md ops listed = [i, j]) (hgd : Region.wanted oi (yielded ops a.tmps) = true) (hgd' : Region.wanted oj (yielded ops a.tmps) = true)
    (v : Value) (w' : World) (hrun : (execOp a.eval oi).run P w = .ok (.value v) w') (hS : S w')
    (u : Value) (w'' : World) (hrun' : (execOp a.eval oj).run P w = .ok (.value u) w'') (hS' : S w'')
    (h : wpAnyH P md ops Q S fuel (listed.setIfInBounds i true) (a.put oi.dst v) w') (h' : wpAnyH P md ops Q S fuel (listed.setIfInBounds j true) (a.put oj.dst u) w'') : wpAnyH P md ops Q S (fuel + 1) listed a w :=
  wpAnyH_all hr (by simp) (fun k hk => by
    rcases List.mem_cons.1 hk with rfl | hk
    · exact wpOp_step (op_of_drop hi) (fun K' hK => by rw [if_pos hgd]; unfold Oper.wp; rw [hrun]; exact hK _ _ ⟨hS, h⟩)
    · obtain rfl : k = j := by simpa using hk
      exact wpOp_step (op_of_drop hj) (fun K' hK => by rw [if_pos hgd']; unfold Oper.wp; rw [hrun']; exact hK _ _ ⟨hS', h'⟩))

/-- either of two may come up: one yields a value, the other one stores a whole array or struct -/
theorem wpH_run_or_store {S : World → Prop} {Q : Exit → Act → World → Prop} {md : Region.Mode} (i j : Nat) {oi oj : Oper} {tl tl' : List Oper} {fuel : Nat} {listed : Array Bool} {a : Act} {w : World} (hi : ops.toList.drop i = oi :: tl) (hj : ops.toList.drop j = oj :: tl')
    (hr : Region.ready md ops listed = [i, j]) (hgd : Region.wanted oi (yielded ops a.tmps) = true) (hgd' : Region.wanted oj (yielded ops a.tmps) = true)
    (v : Value) (hrun : (execOp a.eval oi).run P w = .ok (.value v) w) (hS : S w)
    (ty : TypeId) (x y : Operand) (ho : oj.op = .store ty x y)
    {g : Nat} {T : TypeId} {old cells : Array Value} (hg : Box w g T old) (hx : a.eval x = .pointer (some ⟨g, 0, none⟩)) (hy : a.eval y = .agg cells) (hsz : old.size = cells.size)
    (hi' : (P.info? ty).map (·.size) = some cells.size) (h1 : cells.all (·.oneCell') = true)
    (h : wpAnyH P md ops Q S fuel (listed.setIfInBounds i true) (a.put oi.dst v) w)
    (h' : ∀ w', Box w' g T cells → Stored w w' g → S w' ∧ wpAnyH P md ops Q S fuel (listed.setIfInBounds j true) (a.put oj.dst undef) w') : wpAnyH P md ops Q S (fuel + 1) listed a w :=
  wpAnyH_all hr (by simp) (fun k hk => by
    rcases List.mem_cons.1 hk with rfl | hk
    · exact wpOp_step (op_of_drop hi) (fun K' hK => by rw [if_pos hgd]; unfold Oper.wp; rw [hrun]; exact hK _ _ ⟨hS, h⟩)
    · obtain rfl : k = j := by simpa using hk
      exact wpOp_step (op_of_drop hj) (fun K' hK => by
        rw [if_pos hgd']
        exact Oper.wp_mono hK (wp_store_box ty x y ho hg hx hy hsz hi' h1 h')))

/-- the one operation that may come up is a call -/
theorem wpH_enter {S : World → Prop} {Q : Exit → Act → World → Prop} {md : Region.Mode} (i : Nat) {oi : Oper} {tl : List Oper} {fuel : Nat} {listed : Array Bool} {a : Act} {w : World} (hi : ops.toList.drop i = oi :: tl)
    (hr : Region.ready md ops listed = [i]) (hgd : Region.wanted oi (yielded ops a.tmps) = true) (f : FuncId) (args : Array Value) (hrun : (execOp a.eval oi).run P w = .ok (.enter f args) w) (R : Ending → World → Prop) (hc : Calls P f args w R)
    (h : ∀ e w', R e w' → ∃ v, e = .returned v ∧ S w' ∧ wpAnyH P md ops Q S fuel (listed.setIfInBounds i true) (a.put oi.dst v) w') : wpAnyH P md ops Q S (fuel + 1) listed a w :=
  wpH_one i hi hr hgd (by
    unfold Oper.wp
    rw [hrun]
    refine hc.mono fun e w' he => ?_
    obtain ⟨v, rfl, hv⟩ := h e w' he
    exact hv)

theorem wpH_append_sl {S : World → Prop} {Q : Exit → Act → World → Prop} {md : Region.Mode} (i : Nat) {oi : Oper} {tl : List Oper} {fuel : Nat} {listed : Array Bool} {a : Act} {w : World} (hi : ops.toList.drop i = oi :: tl)
    (hr : Region.ready md ops listed = [i]) (hgd : Region.wanted oi (yielded ops a.tmps) = true) (s x : Operand) (t : TypeId)
    (ho : oi.op = .call { callee := .builtin .append, args := #[s, x], argTypes := #[t, t] })
    (base : Nat) (e : TypeId) (j : TypeInfo) (ht : P.underlying t = some (.slice e)) (hj : P.info? e = some j) (hz : j.zero = some (.int .u8 0)) (hsize : j.size = 1) (hby : j.bytes = 1)
    (v : Value) (n : Nat) (l : List UInt8) (hs : a.eval s = v) (hown : w.ownsRow base e 1 v n (Lib.byteCells l))
    (ax : Option Addr) (m c : Nat) (l2 : List UInt8) (hx : a.eval x = .slice ax m c) (hsl : Sl w ax m c l2)
    (hbytes : n + m ≤ 140737488355328) (hbase : base ≤ w.heap.size)
    (h : ∀ v' w', w'.ownsRow base e 1 v' (n + m) (Lib.byteCells (l ++ l2)) → w.grownBy w' v.ownBlock → S w' ∧ wpAnyH P md ops Q S fuel (listed.setIfInBounds i true) (a.put oi.dst v') w') : wpAnyH P md ops Q S (fuel + 1) listed a w :=
  wpH_one i hi hr hgd (wp_append_sl s x t ho base e j ht hj hz hsize hby v n l hs hown ax m c l2 hx hsl hbytes hbase h)
end Go.Proofs.YtcflgoddfakepaaDoor

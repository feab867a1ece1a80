/- Drawn regions: allocations that may come up in any order. -/
import Derived.Test.YtigopfeamjhdpaaDoorWnG12
namespace Go.Proofs.YtigopfeamjhdpaaDoor
open Go.RowKit
set_option linter.unusedVariables false

section
variable {P : Program} {ops : Array Oper} {Q : Exit → Act → World → Prop} {md : Region.Mode} {S : World → Prop}
/-- an allocation at a place of the region -/
structure AlAt (ops : Array Oper) (T : TypeId) (i : Nat) (o : Oper) : Prop where
  at_ : ∃ tl, ops.toList.drop i = o :: tl
  op : o.op = .alloc T
  gd : o.guard = none
abbrev pt0 (g : Nat) : Value := .pointer (some ⟨g, 0, none⟩)
theorem al_step {T : TypeId} {cs : Array Value} (hr : ∀ w, (Instr.alloc T true (.tuple #[])).run P w = .ok (.pointer (some ⟨w.heap.size, 0, none⟩)) (w.alloc (.cells cs T))) (hK : Keeps S)
    {i : Nat} {o : Oper} (hi : AlAt ops T i o) {fuel : Nat} {listed : Array Bool} {a : Act} {w1 : World} (s1 : S w1)
    (h : ∀ g w', Box w' g T cs → w1.heap.size ≤ g → Below w1.heap.size w1 w' → S w' → wpU P md ops Q S fuel (listed.setIfInBounds i true) (a.put o.dst (pt0 g)) w') :
    wpOp P ops Q i (fun a' w' => S w' ∧ wpU P md ops Q S fuel (listed.setIfInBounds i true) a' w') a w1 := by
  obtain ⟨tl, htl⟩ := hi.at_
  refine wpOp_step (op_of_drop htl) (fun K' hK' => ?_)
  have hw : Region.wanted o (yielded ops a.tmps) = true := by unfold Region.wanted; rw [hi.gd]
  rw [if_pos hw]
  refine Oper.wp_mono hK' (wp_alloc_new T hi.op cs hr ?_)
  intro g w' hb hg hbl
  exact ⟨hK _ _ s1 hbl, h g w' hb hg hbl (hK _ _ s1 hbl)⟩
theorem set_comm (l : Array Bool) {i j : Nat} (h : i ≠ j) : (l.setIfInBounds i true).setIfInBounds j true = (l.setIfInBounds j true).setIfInBounds i true := Array.setIfInBounds_comm _ _ h

theorem wpU_al1 {T : TypeId} {cs : Array Value} (hr : ∀ w, (Instr.alloc T true (.tuple #[])).run P w = .ok (.pointer (some ⟨w.heap.size, 0, none⟩)) (w.alloc (.cells cs T))) (hK : Keeps S)
    {i : Nat} {oi : Oper} (hi : AlAt ops T i oi) {fuel : Nat} {listed : Array Bool} {a : Act} {w : World} (r0 : Region.ready md ops listed = [i])
    (h : ∀ g w', Box w' g T cs → w.heap.size ≤ g → Below w.heap.size w w' → S w' → wpU P md ops Q S fuel (listed.setIfInBounds i true) (a.put oi.dst (pt0 g)) w') : wpU P md ops Q S (fuel + 1) listed a w :=
  wpU_all r0 (by simp) fun w1 b1 s1 k hk => by
    obtain rfl : k = i := by simpa using hk
    exact al_step hr hK hi s1 fun g w' hb hg hbl hs => h g w' hb (Nat.le_trans b1.size hg) (b1.trans (hbl.mono b1.size)) hs
theorem wpU_al2 {T : TypeId} {cs : Array Value} (hr : ∀ w, (Instr.alloc T true (.tuple #[])).run P w = .ok (.pointer (some ⟨w.heap.size, 0, none⟩)) (w.alloc (.cells cs T))) (hK : Keeps S)
    {i j : Nat} {oi oj : Oper} (hi : AlAt ops T i oi) (hj : AlAt ops T j oj) (hij : i ≠ j) (hd : ∀ d, oi.dst = some d → oj.dst ≠ some d) {fuel : Nat} {listed : Array Bool} {a : Act} {w : World} (r0 : Region.ready md ops listed = [i, j])
    (r1 : Region.ready md ops (listed.setIfInBounds i true) = [j]) (r2 : Region.ready md ops (listed.setIfInBounds j true) = [i])
    (h : ∀ g1 g2 w', Box w' g1 T cs → Box w' g2 T cs → g1 ≠ g2 → w.heap.size ≤ g1 → w.heap.size ≤ g2 → Below w.heap.size w w' → S w' → wpU P md ops Q S fuel ((listed.setIfInBounds i true).setIfInBounds j true) ((a.put oi.dst (pt0 g1)).put oj.dst (pt0 g2)) w') : wpU P md ops Q S (fuel + 2) listed a w :=
  wpU_all r0 (by simp) fun w1 b1 s1 k hk => by
    rcases List.mem_cons.1 hk with rfl | hk
    · refine al_step hr hK hi s1 fun g w' hb hg hbl hs => wpU_al1 hr hK hj r1 fun g2 w2 hb2 hg2 hbl2 hs2 => ?_
      exact h g g2 w2 (hb.after hbl2) hb2 (Nat.ne_of_lt (Nat.lt_of_lt_of_le hb.lt hg2)) (Nat.le_trans b1.size hg) (Nat.le_trans (Nat.le_trans b1.size hbl.size) hg2) ((b1.trans (hbl.mono b1.size)).trans (hbl2.mono (Nat.le_trans b1.size hbl.size))) hs2
    · obtain rfl : k = j := by simpa using hk
      refine al_step hr hK hj s1 fun g w' hb hg hbl hs => wpU_al1 hr hK hi r2 fun g2 w2 hb2 hg2 hbl2 hs2 => ?_
      rw [set_comm _ (Ne.symm hij), Act.put_comm _ _ _ (fun d h1 h2 => hd d h2 h1)]
      exact h g2 g w2 hb2 (hb.after hbl2) (Ne.symm (Nat.ne_of_lt (Nat.lt_of_lt_of_le hb.lt hg2))) (Nat.le_trans (Nat.le_trans b1.size hbl.size) hg2) (Nat.le_trans b1.size hg) ((b1.trans (hbl.mono b1.size)).trans (hbl2.mono (Nat.le_trans b1.size hbl.size))) hs2
end
end Go.Proofs.YtigopfeamjhdpaaDoor

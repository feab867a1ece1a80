/- Drawn regions: allocations that may come up in any order. -/
import Derived.Test.YtpkoniebbkkmjaaPnG9
namespace Go.Proofs.Ytpkoniebbkkmjaa
open Go.RowKit
set_option linter.unusedVariables false

section
variable {P : Program} {ops : Array Oper} {Q : Exit → Act → World → Prop} {md : Region.Mode} {S : World → Prop}
/-- an allocation at a place of the region -/
structure AlAt (ops : Array Oper) (T : TypeId) (i : Nat) (o : Oper) : Prop where
  at_ : ∃ tl, ops.toList.drop i = o :: tl
  op : o.op = .alloc T
  gd : o.guard = none
abbrev pt0 (g : Nat) : Value := .pointer (some ⟨g, 0, none⟩)
theorem al_step {T : TypeId} {cs : Array Value} (hr : ∀ w, (Instr.alloc T true (.tuple #[])).run P w = .ok (.pointer (some ⟨w.heap.size, 0, none⟩)) (w.alloc (.cells cs T))) (hK : Keeps S)
    {i : Nat} {o : Oper} (hi : AlAt ops T i o) {fuel : Nat} {listed : Array Bool} {a : Act} {w1 : World} (s1 : S w1)
    (h : ∀ g w', Box w' g T cs → w1.heap.size ≤ g → Below w1.heap.size w1 w' → S w' → wpU P md ops Q S fuel (listed.setIfInBounds i true) (a.put o.dst (pt0 g)) w') :
    wpOp P ops Q i (fun a' w' => S w' ∧ wpU P md ops Q S fuel (listed.setIfInBounds i true) a' w') a w1 := by
  obtain ⟨tl, htl⟩ := hi.at_
  refine wpOp_step (op_of_drop htl) (fun K' hK' => ?_)
  have hw : Region.wanted o (yielded ops a.tmps) = true := by unfold Region.wanted; rw [hi.gd]
  rw [if_pos hw]
  refine Oper.wp_mono hK' (wp_alloc_new T hi.op cs hr ?_)
  intro g w' hb hg hbl
  exact ⟨hK _ _ s1 hbl, h g w' hb hg hbl (hK _ _ s1 hbl)⟩
theorem set_comm (l : Array Bool) {i j : Nat} (h : i ≠ j) : (l.setIfInBounds i true).setIfInBounds j true = (l.setIfInBounds j true).setIfInBounds i true := Array.setIfInBounds_comm _ _ h

theorem wpU_al1 {T : TypeId} {cs : Array Value} (hr : ∀ w, (Instr.alloc T true (.tuple #[])).run P w = .ok (.pointer (some ⟨w.heap.size, 0, none⟩)) (w.alloc (.cells cs T))) (hK : Keeps S)
    {i : Nat} {oi : Oper} (hi : AlAt ops T i oi) {fuel : Nat} {listed : Array Bool} {a : Act} {w : World} (r0 : Region.ready md ops listed = [i])
    (h : ∀ g w', Box w' g T cs → w.heap.size ≤ g → Below w.heap.size w w' → S w' → wpU P md ops Q S fuel (listed.setIfInBounds i true) (a.put oi.dst (pt0 g)) w') : wpU P md ops Q S (fuel + 1) listed a w :=
  wpU_all r0 (by simp) fun w1 b1 s1 k hk => by
    obtain rfl : k = i := by simpa using hk
    exact al_step hr hK hi s1 fun g w' hb hg hbl hs => h g w' hb (Nat.le_trans b1.size hg) (b1.trans (hbl.mono b1.size)) hs
theorem wpU_al2 {T : TypeId} {cs : Array Value} (hr : ∀ w, (Instr.alloc T true (.tuple #[])).run P w = .ok (.pointer (some ⟨w.heap.size, 0, none⟩)) (w.alloc (.cells cs T))) (hK : Keeps S)
    {i j : Nat} {oi oj : Oper} (hi : AlAt ops T i oi) (hj : AlAt ops T j oj) (hij : i ≠ j) (hd : ∀ d, oi.dst = some d → oj.dst ≠ some d) {fuel : Nat} {listed : Array Bool} {a : Act} {w : World} (r0 : Region.ready md ops listed = [i, j])
    (r1 : Region.ready md ops (listed.setIfInBounds i true) = [j]) (r2 : Region.ready md ops (listed.setIfInBounds j true) = [i])
    (h : ∀ g1 g2 w', Box w' g1 T cs → Box w' g2 T cs → g1 ≠ g2 → w.heap.size ≤ g1 → w.heap.size ≤ g2 → Below w.heap.size w w' → S w' → wpU P md ops Q S fuel ((listed.setIfInBounds i true).setIfInBounds j true) ((a.put oi.dst (pt0 g1)).put oj.dst (pt0 g2)) w') : wpU P md ops Q S (fuel + 2) listed a w :=
  wpU_all r0 (by simp) fun w1 b1 s1 k hk => by
    rcases List.mem_cons.1 hk with rfl | hk
    · refine al_step hr hK hi s1 fun g w' hb hg hbl hs => wpU_al1 hr hK hj r1 fun g2 w2 hb2 hg2 hbl2 hs2 => ?_
      exact h g g2 w2 (hb.after hbl2) hb2 (Nat.ne_of_lt (Nat.lt_of_lt_of_le hb.lt hg2)) (Nat.le_trans b1.size hg) (Nat.le_trans (Nat.le_trans b1.size hbl.size) hg2) ((b1.trans (hbl.mono b1.size)).trans (hbl2.mono (Nat.le_trans b1.size hbl.size))) hs2
    · obtain rfl : k = j := by simpa using hk
      refine al_step hr hK hj s1 fun g w' hb hg hbl hs => wpU_al1 hr hK hi r2 fun g2 w2 hb2 hg2 hbl2 hs2 => ?_
      rw [set_comm _ (Ne.symm hij), Act.put_comm _ _ _ (fun d h1 h2 => hd d h2 h1)]
      exact h g2 g w2 hb2 (hb.after hbl2) (Ne.symm (Nat.ne_of_lt (Nat.lt_of_lt_of_le hb.lt hg2))) (Nat.le_trans (Nat.le_trans b1.size hbl.size) hg2) (Nat.le_trans b1.size hg) ((b1.trans (hbl.mono b1.size)).trans (hbl2.mono (Nat.le_trans b1.size hbl.size))) hs2
/-- which allocations may come up, step by step -/
structure Rdy2 (md : Region.Mode) (ops : Array Oper) (l : Array Bool) (i j : Nat) : Prop where
  r0 : Region.ready md ops l = [i, j]
  r1 : Region.ready md ops (l.setIfInBounds i true) = [j]
  r2 : Region.ready md ops (l.setIfInBounds j true) = [i]
structure Rdy3 (md : Region.Mode) (ops : Array Oper) (l : Array Bool) (i j k : Nat) : Prop where
  r0 : Region.ready md ops l = [i, j, k]
  r1 : Rdy2 md ops (l.setIfInBounds i true) j k
  r2 : Rdy2 md ops (l.setIfInBounds j true) i k
  r3 : Rdy2 md ops (l.setIfInBounds k true) i j
structure Rdy4 (md : Region.Mode) (ops : Array Oper) (l : Array Bool) (i j k m : Nat) : Prop where
  r0 : Region.ready md ops l = [i, j, k, m]
  r1 : Rdy3 md ops (l.setIfInBounds i true) j k m
  r2 : Rdy3 md ops (l.setIfInBounds j true) i k m
  r3 : Rdy3 md ops (l.setIfInBounds k true) i j m
  r4 : Rdy3 md ops (l.setIfInBounds m true) i j k
theorem wpU_al3 {T : TypeId} {cs : Array Value} (hr : ∀ w, (Instr.alloc T true (.tuple #[])).run P w = .ok (.pointer (some ⟨w.heap.size, 0, none⟩)) (w.alloc (.cells cs T))) (hK : Keeps S) {i j k : Nat} {oi : Oper} (hi : AlAt ops T i oi) {oj : Oper} (hj : AlAt ops T j oj) {ok : Oper} (hk : AlAt ops T k ok) (nij : i ≠ j) (dij : ∀ d, oi.dst = some d → oj.dst ≠ some d) (nik : i ≠ k) (dik : ∀ d, oi.dst = some d → ok.dst ≠ some d) (njk : j ≠ k) (djk : ∀ d, oj.dst = some d → ok.dst ≠ some d) {fuel : Nat} {listed : Array Bool} {a : Act} {w : World} (R : Rdy3 md ops listed i j k)
    (h : ∀ (gi gj gk : Nat) (w' : World), Box w' gi T cs → Box w' gj T cs → Box w' gk T cs → gi ≠ gj → gi ≠ gk → gj ≠ gk → w.heap.size ≤ gi → w.heap.size ≤ gj → w.heap.size ≤ gk → Below w.heap.size w w' → S w' → wpU P md ops Q S fuel (((listed.setIfInBounds i true).setIfInBounds j true).setIfInBounds k true) (((a.put oi.dst (pt0 gi)).put oj.dst (pt0 gj)).put ok.dst (pt0 gk)) w') : wpU P md ops Q S (fuel + 3) listed a w :=
  wpU_all R.r0 (by simp) fun w1 b1 s1 q hq => by
    rcases List.mem_cons.1 hq with hq0 | hq
    · obtain rfl : i = q := hq0.symm
      refine al_step hr hK hi s1 fun gi w2 hb hg hbl hs => ?_
      refine wpU_al2 hr hK hj hk njk djk R.r1.r0 R.r1.r1 R.r1.r2 fun gj gk w3 hbj hbk ejk lj lk hbl3 hs3 => ?_
      exact h gi gj gk w3 (hb.after hbl3) hbj hbk (Nat.ne_of_lt (Nat.lt_of_lt_of_le hb.lt lj)) (Nat.ne_of_lt (Nat.lt_of_lt_of_le hb.lt lk)) ejk (Nat.le_trans b1.size hg) (Nat.le_trans (Nat.le_trans b1.size hbl.size) lj) (Nat.le_trans (Nat.le_trans b1.size hbl.size) lk) ((b1.trans (hbl.mono b1.size)).trans (hbl3.mono (Nat.le_trans b1.size hbl.size))) hs3
    rcases List.mem_cons.1 hq with hq0 | hq
    · obtain rfl : j = q := hq0.symm
      refine al_step hr hK hj s1 fun gj w2 hb hg hbl hs => ?_
      refine wpU_al2 hr hK hi hk nik dik R.r2.r0 R.r2.r1 R.r2.r2 fun gi gk w3 hbi hbk eik li lk hbl3 hs3 => ?_
      have ci := set_comm listed (show j ≠ i from fun e => nij e.symm)
      have pi := Act.put_comm a (pt0 gj) (pt0 gi) (x := oj.dst) (y := oi.dst) (fun d h1 h2 => dij d h2 h1)
      rw [ci, pi]
      exact h gi gj gk w3 hbi (hb.after hbl3) hbk (Ne.symm (Nat.ne_of_lt (Nat.lt_of_lt_of_le hb.lt li))) eik (Nat.ne_of_lt (Nat.lt_of_lt_of_le hb.lt lk)) (Nat.le_trans (Nat.le_trans b1.size hbl.size) li) (Nat.le_trans b1.size hg) (Nat.le_trans (Nat.le_trans b1.size hbl.size) lk) ((b1.trans (hbl.mono b1.size)).trans (hbl3.mono (Nat.le_trans b1.size hbl.size))) hs3
    · obtain rfl : k = q := by simpa using (Eq.symm (List.mem_singleton.1 hq))
      refine al_step hr hK hk s1 fun gk w2 hb hg hbl hs => ?_
      refine wpU_al2 hr hK hi hj nij dij R.r3.r0 R.r3.r1 R.r3.r2 fun gi gj w3 hbi hbj eij li lj hbl3 hs3 => ?_
      have ci := set_comm listed (show k ≠ i from fun e => nik e.symm)
      have pi := Act.put_comm a (pt0 gk) (pt0 gi) (x := ok.dst) (y := oi.dst) (fun d h1 h2 => dik d h2 h1)
      rw [ci, pi]
      have cj := set_comm (listed.setIfInBounds i true) (show k ≠ j from fun e => njk e.symm)
      have pj := Act.put_comm (a.put oi.dst (pt0 gi)) (pt0 gk) (pt0 gj) (x := ok.dst) (y := oj.dst) (fun d h1 h2 => djk d h2 h1)
      rw [cj, pj]
      exact h gi gj gk w3 hbi hbj (hb.after hbl3) eij (Ne.symm (Nat.ne_of_lt (Nat.lt_of_lt_of_le hb.lt li))) (Ne.symm (Nat.ne_of_lt (Nat.lt_of_lt_of_le hb.lt lj))) (Nat.le_trans (Nat.le_trans b1.size hbl.size) li) (Nat.le_trans (Nat.le_trans b1.size hbl.size) lj) (Nat.le_trans b1.size hg) ((b1.trans (hbl.mono b1.size)).trans (hbl3.mono (Nat.le_trans b1.size hbl.size))) hs3
theorem wpU_al4 {T : TypeId} {cs : Array Value} (hr : ∀ w, (Instr.alloc T true (.tuple #[])).run P w = .ok (.pointer (some ⟨w.heap.size, 0, none⟩)) (w.alloc (.cells cs T))) (hK : Keeps S) {i j k m : Nat} {oi : Oper} (hi : AlAt ops T i oi) {oj : Oper} (hj : AlAt ops T j oj) {ok : Oper} (hk : AlAt ops T k ok) {om : Oper} (hm : AlAt ops T m om) (nij : i ≠ j) (dij : ∀ d, oi.dst = some d → oj.dst ≠ some d) (nik : i ≠ k) (dik : ∀ d, oi.dst = some d → ok.dst ≠ some d) (nim : i ≠ m) (dim : ∀ d, oi.dst = some d → om.dst ≠ some d) (njk : j ≠ k) (djk : ∀ d, oj.dst = some d → ok.dst ≠ some d) (njm : j ≠ m) (djm : ∀ d, oj.dst = some d → om.dst ≠ some d) (nkm : k ≠ m) (dkm : ∀ d, ok.dst = some d → om.dst ≠ some d) {fuel : Nat} {listed : Array Bool} {a : Act} {w : World} (R : Rdy4 md ops listed i j k m)
    (h : ∀ (gi gj gk gm : Nat) (w' : World), Box w' gi T cs → Box w' gj T cs → Box w' gk T cs → Box w' gm T cs → gi ≠ gj → gi ≠ gk → gi ≠ gm → gj ≠ gk → gj ≠ gm → gk ≠ gm → w.heap.size ≤ gi → w.heap.size ≤ gj → w.heap.size ≤ gk → w.heap.size ≤ gm → Below w.heap.size w w' → S w' → wpU P md ops Q S fuel ((((listed.setIfInBounds i true).setIfInBounds j true).setIfInBounds k true).setIfInBounds m true) ((((a.put oi.dst (pt0 gi)).put oj.dst (pt0 gj)).put ok.dst (pt0 gk)).put om.dst (pt0 gm)) w') : wpU P md ops Q S (fuel + 4) listed a w :=
  wpU_all R.r0 (by simp) fun w1 b1 s1 q hq => by
    rcases List.mem_cons.1 hq with hq0 | hq
    · obtain rfl : i = q := hq0.symm
      refine al_step hr hK hi s1 fun gi w2 hb hg hbl hs => ?_
      refine wpU_al3 hr hK hj hk hm njk djk njm djm nkm dkm R.r1 fun gj gk gm w3 hbj hbk hbm ejk ejm ekm lj lk lm hbl3 hs3 => ?_
      exact h gi gj gk gm w3 (hb.after hbl3) hbj hbk hbm (Nat.ne_of_lt (Nat.lt_of_lt_of_le hb.lt lj)) (Nat.ne_of_lt (Nat.lt_of_lt_of_le hb.lt lk)) (Nat.ne_of_lt (Nat.lt_of_lt_of_le hb.lt lm)) ejk ejm ekm (Nat.le_trans b1.size hg) (Nat.le_trans (Nat.le_trans b1.size hbl.size) lj) (Nat.le_trans (Nat.le_trans b1.size hbl.size) lk) (Nat.le_trans (Nat.le_trans b1.size hbl.size) lm) ((b1.trans (hbl.mono b1.size)).trans (hbl3.mono (Nat.le_trans b1.size hbl.size))) hs3
    rcases List.mem_cons.1 hq with hq0 | hq
    · obtain rfl : j = q := hq0.symm
      refine al_step hr hK hj s1 fun gj w2 hb hg hbl hs => ?_
      refine wpU_al3 hr hK hi hk hm nik dik nim dim nkm dkm R.r2 fun gi gk gm w3 hbi hbk hbm eik eim ekm li lk lm hbl3 hs3 => ?_
      have ci := set_comm listed (show j ≠ i from fun e => nij e.symm)
      have pi := Act.put_comm a (pt0 gj) (pt0 gi) (x := oj.dst) (y := oi.dst) (fun d h1 h2 => dij d h2 h1)
      rw [ci, pi]
      exact h gi gj gk gm w3 hbi (hb.after hbl3) hbk hbm (Ne.symm (Nat.ne_of_lt (Nat.lt_of_lt_of_le hb.lt li))) eik eim (Nat.ne_of_lt (Nat.lt_of_lt_of_le hb.lt lk)) (Nat.ne_of_lt (Nat.lt_of_lt_of_le hb.lt lm)) ekm (Nat.le_trans (Nat.le_trans b1.size hbl.size) li) (Nat.le_trans b1.size hg) (Nat.le_trans (Nat.le_trans b1.size hbl.size) lk) (Nat.le_trans (Nat.le_trans b1.size hbl.size) lm) ((b1.trans (hbl.mono b1.size)).trans (hbl3.mono (Nat.le_trans b1.size hbl.size))) hs3
    rcases List.mem_cons.1 hq with hq0 | hq
    · obtain rfl : k = q := hq0.symm
      refine al_step hr hK hk s1 fun gk w2 hb hg hbl hs => ?_
      refine wpU_al3 hr hK hi hj hm nij dij nim dim njm djm R.r3 fun gi gj gm w3 hbi hbj hbm eij eim ejm li lj lm hbl3 hs3 => ?_
      have ci := set_comm listed (show k ≠ i from fun e => nik e.symm)
      have pi := Act.put_comm a (pt0 gk) (pt0 gi) (x := ok.dst) (y := oi.dst) (fun d h1 h2 => dik d h2 h1)
      rw [ci, pi]
      have cj := set_comm (listed.setIfInBounds i true) (show k ≠ j from fun e => njk e.symm)
      have pj := Act.put_comm (a.put oi.dst (pt0 gi)) (pt0 gk) (pt0 gj) (x := ok.dst) (y := oj.dst) (fun d h1 h2 => djk d h2 h1)
      rw [cj, pj]
      exact h gi gj gk gm w3 hbi hbj (hb.after hbl3) hbm eij (Ne.symm (Nat.ne_of_lt (Nat.lt_of_lt_of_le hb.lt li))) eim (Ne.symm (Nat.ne_of_lt (Nat.lt_of_lt_of_le hb.lt lj))) ejm (Nat.ne_of_lt (Nat.lt_of_lt_of_le hb.lt lm)) (Nat.le_trans (Nat.le_trans b1.size hbl.size) li) (Nat.le_trans (Nat.le_trans b1.size hbl.size) lj) (Nat.le_trans b1.size hg) (Nat.le_trans (Nat.le_trans b1.size hbl.size) lm) ((b1.trans (hbl.mono b1.size)).trans (hbl3.mono (Nat.le_trans b1.size hbl.size))) hs3
    · obtain rfl : m = q := by simpa using (Eq.symm (List.mem_singleton.1 hq))
      refine al_step hr hK hm s1 fun gm w2 hb hg hbl hs => ?_
      refine wpU_al3 hr hK hi hj hk nij dij nik dik njk djk R.r4 fun gi gj gk w3 hbi hbj hbk eij eik ejk li lj lk hbl3 hs3 => ?_
      have ci := set_comm listed (show m ≠ i from fun e => nim e.symm)
      have pi := Act.put_comm a (pt0 gm) (pt0 gi) (x := om.dst) (y := oi.dst) (fun d h1 h2 => dim d h2 h1)
      rw [ci, pi]
      have cj := set_comm (listed.setIfInBounds i true) (show m ≠ j from fun e => njm e.symm)
      have pj := Act.put_comm (a.put oi.dst (pt0 gi)) (pt0 gm) (pt0 gj) (x := om.dst) (y := oj.dst) (fun d h1 h2 => djm d h2 h1)
      rw [cj, pj]
      have ck := set_comm ((listed.setIfInBounds i true).setIfInBounds j true) (show m ≠ k from fun e => nkm e.symm)
      have pk := Act.put_comm ((a.put oi.dst (pt0 gi)).put oj.dst (pt0 gj)) (pt0 gm) (pt0 gk) (x := om.dst) (y := ok.dst) (fun d h1 h2 => dkm d h2 h1)
      rw [ck, pk]
      exact h gi gj gk gm w3 hbi hbj hbk (hb.after hbl3) eij eik (Ne.symm (Nat.ne_of_lt (Nat.lt_of_lt_of_le hb.lt li))) ejk (Ne.symm (Nat.ne_of_lt (Nat.lt_of_lt_of_le hb.lt lj))) (Ne.symm (Nat.ne_of_lt (Nat.lt_of_lt_of_le hb.lt lk))) (Nat.le_trans (Nat.le_trans b1.size hbl.size) li) (Nat.le_trans (Nat.le_trans b1.size hbl.size) lj) (Nat.le_trans (Nat.le_trans b1.size hbl.size) lk) (Nat.le_trans b1.size hg) ((b1.trans (hbl.mono b1.size)).trans (hbl3.mono (Nat.le_trans b1.size hbl.size))) hs3
end
end Go.Proofs.Ytpkoniebbkkmjaa

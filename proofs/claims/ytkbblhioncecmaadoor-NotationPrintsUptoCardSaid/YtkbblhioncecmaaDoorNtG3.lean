/- The document's May: what it computes; what is not great is not long. Drawn regions: one cell stored; values that must be read ahead of a store. Drawn regions that read ahead of what they write: reads and calls are taken first; from the first write on nothing is asked of the world. The program's put, and what it counts: what they compute. The program's right and May: what they compute. -/
import Derived.Test.YtkbblhioncecmaaDoorNtG2
import Derived.Laws.CopyOwn
import Derived.StillTail
namespace Go.Proofs.YtkbblhioncecmaaDoor
open Go.RowKit
set_option linter.unusedSimpArgs false
set_option linter.unusedVariables false

def Sx.may (s : Sx) : Bool := s.clean && decide (s.nodes ≤ 512) && decide (s.deep ≤ 16) && decide (s.form.length ≤ 4096)

/-- what is not wide -/
theorem wide_no {s : Sx} : ∀ {m : Nat}, s.wide m = false → m ≤ 60 ∧ s.ks.length ≤ 700 ∧ s.hi.length ≤ 5000 ∧ s.da.length ≤ 5000 ∧ ∀ k ∈ s.ks, k.wide (m + 1) = false := by
  intro m h
  obtain ⟨l, hh, hi, da, ks⟩ := s
  rw [wide_def] at h
  simp only [Bool.or_eq_false_iff, decide_eq_false_iff_not] at h
  obtain ⟨⟨⟨⟨h1, h2⟩, h3⟩, h4⟩, h5⟩ := h
  refine ⟨by omega, by simp only [Sx.ks]; omega, by simp only [Sx.hi]; omega, by simp only [Sx.da]; omega, fun k hk => ?_⟩
  by_cases e : k.wide (m + 1) = true
  · rw [Sx.wideL_yes (ks := ks) hk e] at h5; cases h5
  · simpa using e
theorem deepL_le {ks : List Sx} {n : Nat} (h : ∀ k ∈ ks, k.deep ≤ n) : Sx.deepL ks ≤ n := by
  induction ks with
  | nil => simp [Sx.deepL]
  | cons a r ih => have h1 := h a List.mem_cons_self; have h2 := ih (fun k hk => h k (List.mem_cons_of_mem _ hk)); simp only [Sx.deepL]; omega
theorem deep_wide (s : Sx) : ∀ m, s.wide m = false → s.deep + m ≤ 61 := by
  induction s using Sx.ind with
  | h l hh hi da ks ih =>
    intro m h
    obtain ⟨h1, _, _, _, h2⟩ := wide_no h
    have : Sx.deepL ks ≤ 60 - m := deepL_le fun k hk => by have := ih k hk (m + 1) (h2 k hk); omega
    simp only [Sx.deep]
    split <;> omega
theorem formL_le {ks : List Sx} (h : ∀ k ∈ ks, k.form.length ≤ 10100 * k.nodes) : (Sx.formL ks).length ≤ 10100 * Sx.nodesL ks := by
  induction ks with
  | nil => simp [Sx.formL]
  | cons a r ih => have h1 := h a List.mem_cons_self; have h2 := ih (fun k hk => h k (List.mem_cons_of_mem _ hk)); simp only [Sx.formL, Sx.nodesL, List.length_append]; omega
theorem form_wide (s : Sx) : ∀ m, s.wide m = false → s.form.length ≤ 10100 * s.nodes := by
  induction s using Sx.ind with
  | h l hh hi da ks ih =>
    intro m h
    obtain ⟨h1, _, h3, h4, h2⟩ := wide_no h
    simp only [Sx.hi, Sx.da] at h3 h4
    have := formL_le fun k hk => ih k hk (m + 1) (h2 k hk)
    have e1 := textL_len hi (by omega)
    have e2 := textL_len da (by omega)
    rw [form_def]
    simp only [Sx.nodes]
    cases l <;> cases hh <;> simp <;> omega

set_option maxHeartbeats 4000000 in
set_option maxRecDepth 100000 in
theorem refMay_any (s : Sx) (v : SV) (w : World) (hr : Rd w v s) (hn : s.nodes < 4611686018427387904) (hd : s.deep ≤ 4611686018427387904) (hf : s.nodes ≤ 512 → s.form.length ≤ 70368744177664) : Calls Tryd.prog 18 #[v.val] w fun e w' => e = .returned (.bool s.may) ∧ Below w.heap.size w w' := by
  obtain ⟨vl, vh, a1, n1, k1, a2, n2, k2, a3, n3, k3⟩ := v
  have HRR := Lib.hid hr
  clear hr
  obtain ⟨cl, hcl⟩ : ∃ cl, cl = s.clean := ⟨_, rfl⟩
  have HCL := Lib.hid hcl
  have HM : Hid (s.may = (cl && decide (s.nodes ≤ 512) && decide (s.deep ≤ 16) && decide (s.form.length ≤ 4096))) := Lib.hid (by rw [hcl]; rfl)
  have CALL1 := Lib.hid (fun w h => clean_any s ⟨vl, vh, a1, n1, k1, a2, n2, k2, a3, n3, k3⟩ w h)
  rw [← hcl] at CALL1
  clear hcl
  have hb0 : Below w.heap.size w (w.alloc (.cells #[.bool vl, .bool vh, .slice a1 n1 k1, .slice a2 n2 k2, .slice a3 n3 k3] 26)) := (Below.refl _ _).alloc (Nat.le_refl _) _
  have hx0 := Lib.hid (Box.new w 26 #[.bool vl, .bool vh, .slice a1 n1 k1, .slice a2 n2 k2, .slice a3 n3 k3])
  have hwn : wrap64 (s.nodes : Int) = s.nodes := wrap_of _ (by omega)
  have CALL2 := Lib.hid (fun w h => nodes_any s ⟨vl, vh, a1, n1, k1, a2, n2, k2, a3, n3, k3⟩ w h)
  rw [hwn] at CALL2
  clear hwn
  have CALL3 := Lib.hid (fun w h => deep_any s ⟨vl, vh, a1, n1, k1, a2, n2, k2, a3, n3, k3⟩ w h hd)
  have CALL4 := Lib.hid (fun w h hf => form_any s ⟨vl, vh, a1, n1, k1, a2, n2, k2, a3, n3, k3⟩ w h hf)
  have HF := Lib.hid hf
  clear hf
  obtain ⟨N, hN⟩ : ∃ N, N = s.nodes := ⟨_, rfl⟩
  obtain ⟨D, hD⟩ : ∃ D, D = s.deep := ⟨_, rfl⟩
  obtain ⟨fl, hfl⟩ : ∃ fl, fl = s.form := ⟨_, rfl⟩
  rw [← hN] at CALL2 HM HF hn
  rw [← hD] at CALL3 HM hd
  rw [← hfl] at CALL4 HM HF
  clear hN hD hfl
  show Calls _ _ #[.agg #[.bool vl, .bool vh, .slice a1 n1 k1, .slice a2 n2 k2, .slice a3 n3 k3]] _ _
  cases cl with
  | false =>
    go_enter Tryd.func18, Tryd.ntmps18
    go_wp2_with (refine wpList_load_box rfl 26 _ rfl hx0.out (by rfl) Tryd.underlying26 rfl (by kernel_rfl) ?_)
    refine (CALL1.out _ (HRR.out.after hb0)).mono ?_
    rintro e w1 ⟨rfl, hb1⟩
    have HB1 := hb0.trans (hb1.mono hb0.size)
    go_wp2_with fail
    go_ret
    exact ⟨by rw [HM.out]; rfl, HB1⟩
  | true =>
    by_cases h2 : N ≤ 512
    · have h2' : (N : Int) ≤ 512 := by omega
      by_cases h3 : D ≤ 16
      · have h3' : (D : Int) ≤ 16 := by omega
        go_enter Tryd.func18, Tryd.ntmps18
        go_wp2_with (refine wpList_load_box rfl 26 _ rfl hx0.out (by rfl) Tryd.underlying26 rfl (by kernel_rfl) ?_)
        refine (CALL1.out _ (HRR.out.after hb0)).mono ?_
        rintro e w1 ⟨rfl, hb1⟩
        have HB1 := hb0.trans (hb1.mono hb0.size)
        have hx1 := Lib.hid (hx0.out.after hb1)
        go_wp2_with (refine wpList_load_box rfl 26 _ rfl hx1.out (by rfl) Tryd.underlying26 rfl (by kernel_rfl) ?_)
        refine (CALL2.out _ (HRR.out.after HB1)).mono ?_
        rintro e w2 ⟨rfl, hb2⟩
        have HB2 := HB1.trans (hb2.mono HB1.size)
        have hx2 := Lib.hid (hx1.out.after hb2)
        go_wp2_with (refine wpList_load_box rfl 26 _ rfl hx2.out (by rfl) Tryd.underlying26 rfl (by kernel_rfl) ?_)
        refine (CALL3.out _ (HRR.out.after HB2)).mono ?_
        rintro e w3 ⟨rfl, hb3⟩
        have HB3 := HB2.trans (hb3.mono HB2.size)
        have hx3 := Lib.hid (hx2.out.after hb3)
        go_wp2_with (refine wpList_load_box rfl 26 _ rfl hx3.out (by rfl) Tryd.underlying26 rfl (by kernel_rfl) ?_)
        refine (CALL4.out _ (HRR.out.after HB3) (HF.out h2)).mono ?_
        rintro e w4 ⟨v4, rfl, ho4, hb4⟩
        obtain ⟨a4, c4, rfl, hs4⟩ := ho4.sl
        have HB4 := HB3.trans (hb4.mono HB3.size)
        clear hs4 ho4
        go_wp2_with fail
        go_ret
        exact ⟨by
          rw [HM.out, decide_eq_true h2, decide_eq_true h3]
          show Ending.returned (.bool (decide ((fl.length : Int) ≤ 4096))) = _
          rw [show decide ((fl.length : Int) ≤ 4096) = decide (fl.length ≤ 4096) from decide_eq_decide.2 (by omega)]
          rfl, HB4⟩
      · have h3' : ¬ (D : Int) ≤ 16 := by omega
        go_enter Tryd.func18, Tryd.ntmps18
        go_wp2_with (refine wpList_load_box rfl 26 _ rfl hx0.out (by rfl) Tryd.underlying26 rfl (by kernel_rfl) ?_)
        refine (CALL1.out _ (HRR.out.after hb0)).mono ?_
        rintro e w1 ⟨rfl, hb1⟩
        have HB1 := hb0.trans (hb1.mono hb0.size)
        have hx1 := Lib.hid (hx0.out.after hb1)
        go_wp2_with (refine wpList_load_box rfl 26 _ rfl hx1.out (by rfl) Tryd.underlying26 rfl (by kernel_rfl) ?_)
        refine (CALL2.out _ (HRR.out.after HB1)).mono ?_
        rintro e w2 ⟨rfl, hb2⟩
        have HB2 := HB1.trans (hb2.mono HB1.size)
        have hx2 := Lib.hid (hx1.out.after hb2)
        go_wp2_with (refine wpList_load_box rfl 26 _ rfl hx2.out (by rfl) Tryd.underlying26 rfl (by kernel_rfl) ?_)
        refine (CALL3.out _ (HRR.out.after HB2)).mono ?_
        rintro e w3 ⟨rfl, hb3⟩
        have HB3 := HB2.trans (hb3.mono HB2.size)
        go_wp2_with fail
        go_ret
        exact ⟨by rw [HM.out, decide_eq_true h2, decide_eq_false h3]; rfl, HB3⟩
    · have h2' : ¬ (N : Int) ≤ 512 := by omega
      go_enter Tryd.func18, Tryd.ntmps18
      go_wp2_with (refine wpList_load_box rfl 26 _ rfl hx0.out (by rfl) Tryd.underlying26 rfl (by kernel_rfl) ?_)
      refine (CALL1.out _ (HRR.out.after hb0)).mono ?_
      rintro e w1 ⟨rfl, hb1⟩
      have HB1 := hb0.trans (hb1.mono hb0.size)
      have hx1 := Lib.hid (hx0.out.after hb1)
      go_wp2_with (refine wpList_load_box rfl 26 _ rfl hx1.out (by rfl) Tryd.underlying26 rfl (by kernel_rfl) ?_)
      refine (CALL2.out _ (HRR.out.after HB1)).mono ?_
      rintro e w2 ⟨rfl, hb2⟩
      have HB2 := HB1.trans (hb2.mono HB1.size)
      go_wp2_with fail
      go_ret
      exact ⟨by rw [HM.out, decide_eq_false h2]; rfl, HB2⟩

end Go.Proofs.YtkbblhioncecmaaDoor
namespace Go.Proofs.YtkbblhioncecmaaDoor
open Go.RowKit

variable {P : Program} {ops : Array Oper} {Q : Exit → Act → World → Prop} {md : Region.Mode} {S : World → Prop}

theorem wp_store_cell {o : Oper} {a : Act} {w : World} {K : Act → World → Prop} (ty : TypeId) (x y : Operand) (ho : o.op = .store ty x y)
    {b off : Nat} {k : IntKind} {n : Int} (hx : a.eval x = .pointer (some ⟨b, off, none⟩)) (hy : a.eval y = .int k n) {u : Value} (hc : w.cell? ⟨b, off, none⟩ = some u) (hf : w.frozen? ⟨b, off, none⟩ = false) (hz : ∀ w, (sizeOf ty).run P w = .ok 1 w)
    (h : K (a.put o.dst undef) (w.setCell ⟨b, off, none⟩ (.int k n))) : o.wp P a w K Q := by
  unfold Oper.wp execOp
  simp only [ho, hx, hy]
  simp [go_sem, hz, hc, hf]
  exact h

theorem Stored.one (w : World) (g j : Nat) (v : Value) : Stored w (w.setCell ⟨g, j, none⟩ v) g := (Stored.refl w g).setCell j v

/-- a store of one cell of a block that is known whole -/
theorem wpU_store_cell (i : Nat) {oi : Oper} {tl : List Oper} {fuel : Nat} {listed : Array Bool} {a : Act} {w : World} (hi : ops.toList.drop i = oi :: tl) (hr : Region.ready md ops listed = [i]) (hgd : Region.wanted oi (yielded ops a.tmps) = true)
    (ty : TypeId) (x y : Operand) (ho : oi.op = .store ty x y) {g : Nat} {T : TypeId} {old : Array Value} (hg : Box w g T old) (j : Nat) {k : IntKind} {n : Int} (hx : a.eval x = .pointer (some ⟨g, j, none⟩)) (hy : a.eval y = .int k n) (hj : j < old.size) (hz : ∀ w, (sizeOf ty).run P w = .ok 1 w)
    (h : ∀ w1 w', Below w.heap.size w w1 → S w1 → Box w' g T (old.setIfInBounds j (.int k n)) → Stored w1 w' g → S w' ∧ wpU P md ops Q S fuel (listed.setIfInBounds i true) (a.put oi.dst undef) w') : wpU P md ops Q S (fuel + 1) listed a w :=
  wpU_one i hi hr hgd (fun w1 b1 s1 =>
    have h1 := hg.after b1
    wp_store_cell ty x y ho hx hy (h1.cell j (Array.getElem?_eq_getElem hj)) (h1.frozen j) hz (h w1 _ b1 s1 (h1.set j _) (Stored.one _ _ _ _)))

theorem wpList_store_cell {rest : List Oper} {o : Oper} {a : Act} {w : World} (hgd : Region.wanted o (yielded ops a.tmps) = true) (ty : TypeId) (x y : Operand) (ho : o.op = .store ty x y)
    {g : Nat} {T : TypeId} {old : Array Value} (hg : Box w g T old) (j : Nat) {k : IntKind} {n : Int} (hx : a.eval x = .pointer (some ⟨g, j, none⟩)) (hy : a.eval y = .int k n) (hj : j < old.size) (hz : ∀ w, (sizeOf ty).run P w = .ok 1 w)
    (h : ∀ w', Box w' g T (old.setIfInBounds j (.int k n)) → Stored w w' g → wpList P ops Q rest (a.put o.dst undef) w') : wpList P ops Q (o :: rest) a w :=
  wpList_want hgd fun _ hK => wp_store_cell ty x y ho hx hy (hg.cell j (Array.getElem?_eq_getElem hj)) (hg.frozen j) hz (hK _ _ (h _ (hg.set j _) (Stored.one _ _ _ _)))

/-- the one that may come up yields a value, in whatever world has come of this one by more memory -/
theorem wpU_oneval (i : Nat) {oi : Oper} {tl : List Oper} {fuel : Nat} {listed : Array Bool} {a : Act} {w : World} (hi : ops.toList.drop i = oi :: tl) (hr : Region.ready md ops listed = [i]) (hgd : Region.wanted oi (yielded ops a.tmps) = true)
    (v : Value) (hy : ∀ w1, Below w.heap.size w w1 → S w1 → (execOp a.eval oi).run P w1 = .ok (.value v) w1)
    (h : wpU P md ops Q S fuel (listed.setIfInBounds i true) (a.put oi.dst v) w) : wpU P md ops Q S (fuel + 1) listed a w :=
  wpU_one i hi hr hgd (fun w1 b1 s1 => by
    unfold Oper.wp
    rw [hy w1 b1 s1]
    exact ⟨s1, wpU_more b1 h⟩)

/-- either of two may come up, each yields a value -/
theorem wpU_fork (i j : Nat) {oi oj : Oper} {tl tl' : List Oper} {fuel : Nat} {listed : Array Bool} {a : Act} {w : World} (hi : ops.toList.drop i = oi :: tl) (hj : ops.toList.drop j = oj :: tl') (hr : Region.ready md ops listed = [i, j]) (v u : Value)
    (hgd : Region.wanted oi (yielded ops a.tmps) = true) (hgd' : Region.wanted oj (yielded ops a.tmps) = true)
    (hy : ∀ w1, Below w.heap.size w w1 → S w1 → (execOp a.eval oi).run P w1 = .ok (.value v) w1) (hy' : ∀ w1, Below w.heap.size w w1 → S w1 → (execOp a.eval oj).run P w1 = .ok (.value u) w1)
    (h : wpU P md ops Q S fuel (listed.setIfInBounds i true) (a.put oi.dst v) w) (h' : wpU P md ops Q S fuel (listed.setIfInBounds j true) (a.put oj.dst u) w) : wpU P md ops Q S (fuel + 1) listed a w :=
  wpU_two i j hi hj hr hgd hgd'
    (fun w1 b1 s1 => by
      unfold Oper.wp
      rw [hy w1 b1 s1]
      exact ⟨s1, wpU_more b1 h⟩)
    (fun w1 b1 s1 => by
      unfold Oper.wp
      rw [hy' w1 b1 s1]
      exact ⟨s1, wpU_more b1 h'⟩)

theorem stored_setRow {w : World} {g : Nat} {T : TypeId} {old : Array Value} (hg : Box w g T old) (cs : Array Value) : Box (w.setRow g cs) g T cs ∧ Stored w (w.setRow g cs) g :=
  ⟨setRow_heap w g old cs T (0, 0) hg, ⟨fun k hk => setRow_other w g k cs hk, by simp, fun _ _ hB hb => below_setRow hb hB cs⟩⟩

theorem wp_copy_box {o : Oper} {a : Act} {w : World} {K : Act → World → Prop} (d s : Operand) (t e : TypeId) (ho : o.op = .call { callee := .builtin .copy, args := #[d, s], argTypes := #[t, t] })
    {g g' : Nat} {T T' : TypeId} {old src : Array Value} (hg : Box w g T old) (hg' : Box w g' T' src) {n c c' : Nat} (hd : a.eval d = .slice (some ⟨g, 0, none⟩) n c) (hs : a.eval s = .slice (some ⟨g', 0, none⟩) src.size c')
    (hu : P.underlying t = some (.slice e)) (hz : (P.info? e).map (·.size) = some 1) (hle : src.size ≤ n) (hn : n ≤ old.size) (h1 : ∀ v ∈ src.toList, v.oneCell' = true)
    (h : ∀ w', Box w' g T (src.toList ++ old.toList.drop src.size).toArray → Stored w w' g → K (a.put o.dst (.int .i64 src.size)) w') : o.wp P a w K Q := by
  have hrun := run_copy_row (P := P) w t t o.type e g 0 n c ⟨g', 0, none⟩ src.size c' old T src.toList hu hz hg (by rw [Array.length_toList]; exact (Nat.min_eq_left hle).symm)
    (fun j v hv => by
      rw [Addr.add_lit, Nat.zero_add]
      exact hg'.cell j (by simpa using hv)) (by rw [Array.length_toList]; omega) h1
  unfold Oper.wp
  simp [execOp, ho, resolve, invoke, builtin, hd, hs, hrun, Result.andThen]
  have h2 := stored_setRow hg (src.toList ++ old.toList.drop src.size).toArray
  exact h _ h2.1 h2.2

theorem wpU_copy_box (i : Nat) {oi : Oper} {tl : List Oper} {fuel : Nat} {listed : Array Bool} {a : Act} {w : World} (hi : ops.toList.drop i = oi :: tl) (hr : Region.ready md ops listed = [i]) (hgd : Region.wanted oi (yielded ops a.tmps) = true)
    (d s : Operand) (t e : TypeId) (ho : oi.op = .call { callee := .builtin .copy, args := #[d, s], argTypes := #[t, t] })
    {g g' : Nat} {T T' : TypeId} {old src : Array Value} (hg : Box w g T old) (hg' : Box w g' T' src) {n c c' : Nat} (hd : a.eval d = .slice (some ⟨g, 0, none⟩) n c) (hs : a.eval s = .slice (some ⟨g', 0, none⟩) src.size c')
    (hu : P.underlying t = some (.slice e)) (hz : (P.info? e).map (·.size) = some 1) (hle : src.size ≤ n) (hn : n ≤ old.size) (h1 : ∀ v ∈ src.toList, v.oneCell' = true)
    (h : ∀ w1 w', Below w.heap.size w w1 → S w1 → Box w' g T (src.toList ++ old.toList.drop src.size).toArray → Stored w1 w' g → S w' ∧ wpU P md ops Q S fuel (listed.setIfInBounds i true) (a.put oi.dst (.int .i64 src.size)) w') : wpU P md ops Q S (fuel + 1) listed a w :=
  wpU_one i hi hr hgd (fun w1 b1 s1 => wp_copy_box d s t e ho (hg.after b1) (hg'.after b1) hd hs hu hz hle hn h1 (fun w' hb st => h w1 w' b1 s1 hb st))

/-- a call that always hands back the same, in each world of the class -/
theorem wpU_callS (i : Nat) {oi : Oper} {tl : List Oper} {fuel : Nat} {listed : Array Bool} {a : Act} {w : World} (hB : Keeps S) (hi : ops.toList.drop i = oi :: tl)
    (hs : Region.noSelect ops = true) (hf : Region.free md ops listed i = true) (hr : (Region.ready md ops listed).contains i = true) (hgd : Region.wanted oi (yielded ops a.tmps) = true)
    (hQ : ∀ c a w v, Q (.panic c) (a.put oi.dst v) w → Q (.panic c) a w) (f : FuncId) (args : Array Value) (hrun : ∀ w, (execOp a.eval oi).run P w = .ok (.enter f args) w) (v : Value)
    (hc : ∀ w, S w → Calls P f args w fun e w' => e = .returned v ∧ Below w.heap.size w w')
    (h : wpU P md ops Q S fuel (listed.setIfInBounds i true) (a.put oi.dst v) w) : wpU P md ops Q S (fuel + 1) listed a w :=
  wpU_first (op_of_drop hi) (Region.noSelect_spec hs) (fun c a w => hQ c a w v) hB fuel listed a w (Region.free_spec (op_of_drop hi) hf) (by simpa using hr)
    (.inl ⟨hgd, fun w hw => by rw [hrun w]; exact ⟨rfl, hc w hw⟩⟩) h
end Go.Proofs.YtkbblhioncecmaaDoor
namespace Go.Proofs.YtkbblhioncecmaaDoor
open Go.RowKit

variable {P : Program} {ops : Array Oper} {Q : Exit → Act → World → Prop} {md : Region.Mode} {S : World → Prop}

/-- j waits for i, by way of others too -/
def reachB (md : Region.Mode) (ops : Array Oper) : Nat → Nat → Nat → Bool
  | 0, _, _ => false
  | f + 1, j, i => match ops[j]? with
    | some o => o.after.toList.any fun e => Region.binds md e && (e.on == i || reachB md ops f e.on i)
    | none => false
/-- what is done has all done that it waits for -/
def closedB (md : Region.Mode) (ops : Array Oper) (listed : Array Bool) : Bool :=
  (List.range ops.size).all fun k => !(listed.getD k false) || match ops[k]? with
    | some o => o.after.toList.all fun e => !(Region.binds md e) || listed.getD e.on false
    | none => true
def Closed (md : Region.Mode) (ops : Array Oper) (listed : Array Bool) : Prop :=
  ∀ k o, ops[k]? = some o → listed.getD k false = true → ∀ e ∈ o.after, Region.binds md e = true → listed.getD e.on false = true

theorem closed_of {listed : Array Bool} (h : closedB md ops listed = true) : Closed md ops listed := by
  intro k o ho hk e he hb
  have hlt : k < ops.size := (Array.getElem?_eq_some_iff.1 ho).1
  have := List.all_eq_true.1 h k (List.mem_range.2 hlt)
  rw [hk, ho] at this
  simp only [Bool.not_true, Bool.false_or] at this
  have := List.all_eq_true.1 this e (by simpa using he)
  rw [hb] at this
  simpa using this

theorem getD_set_self (listed : Array Bool) (j : Nat) (h : j < listed.size) : (listed.setIfInBounds j true).getD j false = true := by simp [h]
theorem getD_set_other {listed : Array Bool} {j k : Nat} (h : j ≠ k) : (listed.setIfInBounds j true).getD k false = listed.getD k false := by
  simp [h]
theorem getD_set_mono {listed : Array Bool} {j k : Nat} (h : listed.getD k false = true) : (listed.setIfInBounds j true).getD k false = true := by
  by_cases e : j = k
  · subst e
    refine getD_set_self _ _ ?_
    rcases Nat.lt_or_ge j listed.size with h' | h'
    · exact h'
    · simp [Array.getElem?_eq_none h'] at h
  · rw [getD_set_other e]; exact h
theorem Closed.set {listed : Array Bool} {j : Nat} (h : Closed md ops listed) (hj : j ∈ Region.ready md ops listed) : Closed md ops (listed.setIfInBounds j true) := by
  intro k o ho hk e he hb
  by_cases hjk : j = k
  · subst hjk
    obtain ⟨_, oj, hoj, hall⟩ := mem_ready.1 hj
    obtain rfl : oj = o := Option.some.inj (hoj.symm.trans ho)
    exact getD_set_mono (hall e he hb)
  · rw [getD_set_other hjk] at hk
    exact getD_set_mono (h k o ho hk e he hb)

theorem reach_not {listed : Array Bool} {i : Nat} (hc : Closed md ops listed) (hi : listed.getD i false = false) : ∀ (f j : Nat), reachB md ops f j i = true → j ∉ Region.ready md ops listed ∧ listed.getD j false = false
  | 0, _, h => by cases h
  | f + 1, j, h => by
    unfold reachB at h
    cases ho : ops[j]? with
    | none => rw [ho] at h; cases h
    | some o =>
      rw [ho] at h
      obtain ⟨e, he, h2⟩ := List.any_eq_true.1 h
      simp only [Bool.and_eq_true, Bool.or_eq_true, beq_iff_eq] at h2
      have hoff : listed.getD e.on false = false := by
        rcases h2.2 with h3 | h3
        · rw [h3]; exact hi
        · exact (reach_not hc hi f e.on h3).2
      refine ⟨fun hj => ?_, ?_⟩
      · obtain ⟨_, oj, hoj, hall⟩ := mem_ready.1 hj
        obtain rfl : oj = o := Option.some.inj (hoj.symm.trans ho)
        have := hall e (by simpa using he) h2.1
        rw [hoff] at this
        cases this
      · by_cases hj : listed.getD j false = true
        · have := hc j o ho hj e (by simpa using he) h2.1
          rw [hoff] at this
          cases this
        · simpa using hj

/-- whatever order is picked from here on; ws: the operations that write -/
def wpW (P : Program) (md : Region.Mode) (ops : Array Oper) (Q : Exit → Act → World → Prop) (S : World → Prop) (ws : List Nat) : Nat → Array Bool → Act → World → Prop
  | 0, listed, a, w => Region.ready md ops listed = [] ∧ ∀ w1, Below w.heap.size w w1 → S w1 → Q .normal a w1
  | fuel + 1, listed, a, w => ∀ w1, Below w.heap.size w w1 → S w1 → (Region.ready md ops listed = [] → Q .normal a w1) ∧
      ∀ i ∈ Region.ready md ops listed, wpOp P ops Q i (fun a' w' => if ws.contains i then wpU P md ops Q (fun _ => True) fuel (listed.setIfInBounds i true) a' w' else S w' ∧ wpW P md ops Q S ws fuel (listed.setIfInBounds i true) a' w') a w1

theorem wpW_more {ws : List Nat} : ∀ {fuel : Nat} {listed : Array Bool} {a : Act} {w w2 : World}, Below w.heap.size w w2 → wpW P md ops Q S ws fuel listed a w → wpW P md ops Q S ws fuel listed a w2
  | 0, _, _, _, _, hb, h => ⟨h.1, fun w1 b1 s1 => h.2 w1 (hb.trans (b1.mono hb.size)) s1⟩
  | _ + 1, _, _, _, _, hb, h => fun w1 b1 s1 => h w1 (hb.trans (b1.mono hb.size)) s1

theorem wpAny_of_W {ws : List Nat} : ∀ (fuel : Nat) (listed : Array Bool) (a : Act) (w : World), S w → wpW P md ops Q S ws fuel listed a w → wpAny P md ops Q fuel listed a w
  | 0, _, _, w, hS, h => ⟨h.1, h.2 w (Below.refl _ _) hS⟩
  | fuel + 1, _, _, w, hS, h => ⟨(h w (Below.refl _ _) hS).1, fun i hi => wpOp_mono (fun a' w' h' => by
      split at h'
      · exact wpAny_of_U fuel _ a' w' trivial h'
      · exact wpAny_of_W fuel _ a' w' h'.1 h'.2) ((h w (Below.refl _ _) hS).2 i hi)⟩

theorem keeps_true : ∀ w w' : World, True → Below w.heap.size w w' → True := fun _ _ _ _ => trivial

theorem wpW_first {ws : List Nat} {i : Nat} {oi : Oper} {v : Value} (hi : ops[i]? = some oi) (hsel : ∀ (j : Nat) (o : Oper) cs b, ops[j]? = some o → o.op ≠ .select cs b)
    (hQ : ∀ c a w, Q (.panic c) (a.put oi.dst v) w → Q (.panic c) a w) (hK : ∀ w w', S w → Below w.heap.size w w' → S w') (hwi : ws.contains i = false)
    (F : Nat) :
    ∀ (fuel : Nat) (listed : Array Bool) (a : Act) (w : World), ((∀ j, ws.contains j = true → reachB md ops F j i = true) ∨ Tame P ops (fun _ => True) oi v a) → Closed md ops listed →
      (∀ j oj, ops[j]? = some oj → j ≠ i → listed.getD j true = false → (∀ e ∈ oj.after, Region.binds md e = true → e.on ≠ i) → oi.apart ops oj = true) →
      i ∈ Region.ready md ops listed → Tame P ops S oi v a → wpW P md ops Q S ws fuel (listed.setIfInBounds i true) (a.put oi.dst v) w → wpW P md ops Q S ws (fuel + 1) listed a w
  | 0, listed, a, w, _, _, _, hr, hy, H => fun w1 b1 s1 => by
    refine ⟨fun h => (by rw [h] at hr; cases hr), fun j hj => ?_⟩
    by_cases hji : j = i
    · subst hji
      refine hy.wpOp hi s1 fun w2 b2 => ?_
      rw [if_neg (by rw [hwi]; simp)]
      exact ⟨hK _ _ s1 b2, wpW_more (b1.trans (b2.mono b1.size)) H⟩
    · have := ready_mono hj hji
      rw [H.1] at this
      cases this
  | fuel + 1, listed, a, w, hb, hc, hfree, hr, hy, H => fun w1 b1 s1 => by
    refine ⟨fun h => (by rw [h] at hr; cases hr), fun j hj => ?_⟩
    by_cases hji : j = i
    · subst hji
      refine hy.wpOp hi s1 fun w2 b2 => ?_
      rw [if_neg (by rw [hwi]; simp)]
      exact ⟨hK _ _ s1 b2, wpW_more (b1.trans (b2.mono b1.size)) H⟩
    · have h1 := (H w1 b1 s1).2 j (ready_mono hj hji)
      obtain ⟨hjun, oj, hoj, hall⟩ := mem_ready.1 hj
      have hun := (mem_ready.1 hr).1
      have hnot : ∀ e ∈ oj.after, Region.binds md e = true → e.on ≠ i := fun e he hb heq => by
        have h3 := hall e he hb
        have h0 := hun
        rw [heq] at h3
        rcases Nat.lt_or_ge i listed.size with h' | h'
        · simp [h'] at h0 h3; rw [h0] at h3; cases h3
        · simp [Array.getElem?_eq_none h'] at h3
      have hfree' : ∀ k ok, ops[k]? = some ok → k ≠ i → (listed.setIfInBounds j true).getD k true = false → (∀ e ∈ ok.after, Region.binds md e = true → e.on ≠ i) → oi.apart ops ok = true := by
        intro k ok hk hki hun hno
        refine hfree k ok hk hki ?_ hno
        by_cases hjk : j = k
        · subst hjk; exact hjun
        · rw [getD_set_ne true hjk] at hun; exact hun
      by_cases hw : ws.contains j = true
      · rcases hb with hb | hb
        · exact absurd hj (reach_not hc (getD_both hun) F j (hb j hw)).1
        · have h2 := wpOp_tame hoj (hfree j oj hoj hji hjun hnot) (fun cs b => hsel i oi cs b hi) (fun cs b => hsel j oj cs b hoj) hQ hb h1
          refine wpOp_mono (fun a' w' h3 => ?_) h2
          rw [if_pos hw]
          have h4 := h3.2
          rw [if_pos hw] at h4
          refine wpU_first hi hsel hQ keeps_true fuel (listed.setIfInBounds j true) a' w' hfree' (ready_mono hr (Ne.symm hji)) h3.1 ?_
          rw [Array.setIfInBounds_comm _ _ hji]
          exact h4
      · have h2 := wpOp_tame hoj (hfree j oj hoj hji hjun hnot) (fun cs b => hsel i oi cs b hi) (fun cs b => hsel j oj cs b hoj) hQ hy h1
        have hbk : ∀ (a' : Act), execOp a'.eval oi = execOp a.eval oi → Region.wanted oi (yielded ops a'.tmps) = Region.wanted oi (yielded ops a.tmps) → (∀ j, ws.contains j = true → reachB md ops F j i = true) ∨ Tame P ops (fun _ => True) oi v a' := fun a' e1 e2 => hb.imp id fun t => t.of_same e1 e2
        rcases hb with hb | hb
        · refine wpOp_mono (fun a' w' h3 => ?_) h2
          rw [if_neg hw]
          have h4 := h3.2
          rw [if_neg hw] at h4
          refine ⟨h4.1, wpW_first hi hsel hQ hK hwi F fuel (listed.setIfInBounds j true) a' w' (.inl hb) (hc.set hj) hfree' (ready_mono hr (Ne.symm hji)) h3.1 ?_⟩
          rw [Array.setIfInBounds_comm _ _ hji]
          exact h4.2
        · have h5 := wpOp_tame hoj (hfree j oj hoj hji hjun hnot) (fun cs b => hsel i oi cs b hi) (fun cs b => hsel j oj cs b hoj) hQ hb h1
          refine wpOp_mono (fun a' w' h3 => ?_) h5
          rw [if_neg hw]
          have h4 := h3.2
          rw [if_neg hw] at h4
          refine ⟨h4.1, wpW_first hi hsel hQ hK hwi F fuel (listed.setIfInBounds j true) a' w' (.inr h3.1) (hc.set hj) hfree' (ready_mono hr (Ne.symm hji)) ?_ ?_⟩
          · rcases h3.1 with ⟨h6, h7⟩ | h6
            · exact .inl ⟨h6, fun w _ => h7 w trivial⟩
            · exact .inr h6
          · rw [Array.setIfInBounds_comm _ _ hji]
            exact h4.2

/-! the moves -/
theorem wp_region_W {id : Nat} {a : Act} {w : World} {l : List Oper} (ws : List Nat) (S : World → Prop) (hm : P.follows .mixedOrders = true) (h0 : S w.drew)
    (h : wpW P .any l.toArray Q S ws l.toArray.size (Array.replicate l.toArray.size false) a w.drew) : (Code.region id l.toArray true).wp P Q a w :=
  wp_region_any hm (wpAny_of_W _ _ _ _ h0 h)

/-- may i be taken first, though it reads? -/
def aheadB (md : Region.Mode) (ops : Array Oper) (ws : List Nat) (listed : Array Bool) (i : Nat) : Bool :=
  !(ws.contains i) && closedB md ops listed && ws.all (fun j => reachB md ops ops.size j i)

theorem wpW_val (i : Nat) {ws : List Nat} {oi : Oper} {tl : List Oper} {fuel : Nat} {listed : Array Bool} {a : Act} {w : World} (hB : Keeps S) (hi : ops.toList.drop i = oi :: tl)
    (hs : Region.noSelect ops = true) (hf : Region.free md ops listed i = true) (hr : (Region.ready md ops listed).contains i = true) (hah : aheadB md ops ws listed i = true) (hgd : Region.wanted oi (yielded ops a.tmps) = true)
    (hQ : ∀ c a w v, Q (.panic c) (a.put oi.dst v) w → Q (.panic c) a w) (v : Value) (hy : ∀ w, S w → (execOp a.eval oi).run P w = .ok (.value v) w)
    (h : wpW P md ops Q S ws fuel (listed.setIfInBounds i true) (a.put oi.dst v) w) : wpW P md ops Q S ws (fuel + 1) listed a w := by
  simp only [aheadB, Bool.and_eq_true, Bool.not_eq_true'] at hah
  exact wpW_first (op_of_drop hi) (Region.noSelect_spec hs) (fun c a w => hQ c a w v) hB hah.1.1 ops.size fuel listed a w (.inl fun j hj => List.all_eq_true.1 hah.2 j (by simpa using hj)) (closed_of hah.1.2)
    (Region.free_spec (op_of_drop hi) hf) (by simpa using hr) (.inl ⟨hgd, fun w hw => by rw [hy w hw]; exact ⟨rfl, rfl⟩⟩) h

theorem wpW_skip (i : Nat) {ws : List Nat} {oi : Oper} {tl : List Oper} {fuel : Nat} {listed : Array Bool} {a : Act} {w : World} (hB : Keeps S) (hi : ops.toList.drop i = oi :: tl)
    (hs : Region.noSelect ops = true) (hf : Region.free md ops listed i = true) (hr : (Region.ready md ops listed).contains i = true) (hah : (!(ws.contains i) && closedB md ops listed) = true) (hgd : Region.wanted oi (yielded ops a.tmps) = false)
    (hQ : ∀ c a w v, Q (.panic c) (a.put oi.dst v) w → Q (.panic c) a w)
    (h : wpW P md ops Q S ws fuel (listed.setIfInBounds i true) (a.put oi.dst undef) w) : wpW P md ops Q S ws (fuel + 1) listed a w := by
  simp only [Bool.and_eq_true, Bool.not_eq_true'] at hah
  exact wpW_first (op_of_drop hi) (Region.noSelect_spec hs) (fun c a w => hQ c a w undef) hB hah.1 ops.size fuel listed a w (.inr (.inr ⟨hgd, rfl⟩)) (closed_of hah.2)
    (Region.free_spec (op_of_drop hi) hf) (by simpa using hr) (.inr ⟨hgd, rfl⟩) h

/-- an operation that asks nothing of the world -/
theorem wpW_free (i : Nat) {ws : List Nat} {oi : Oper} {tl : List Oper} {fuel : Nat} {listed : Array Bool} {a : Act} {w : World} (hB : Keeps S) (hi : ops.toList.drop i = oi :: tl)
    (hs : Region.noSelect ops = true) (hf : Region.free md ops listed i = true) (hr : (Region.ready md ops listed).contains i = true) (hah : (!(ws.contains i) && closedB md ops listed) = true) (hgd : Region.wanted oi (yielded ops a.tmps) = true)
    (hQ : ∀ c a w v, Q (.panic c) (a.put oi.dst v) w → Q (.panic c) a w) (v : Value) (hy : ∀ w, (execOp a.eval oi).run P w = .ok (.value v) w)
    (h : wpW P md ops Q S ws fuel (listed.setIfInBounds i true) (a.put oi.dst v) w) : wpW P md ops Q S ws (fuel + 1) listed a w := by
  simp only [Bool.and_eq_true, Bool.not_eq_true'] at hah
  exact wpW_first (op_of_drop hi) (Region.noSelect_spec hs) (fun c a w => hQ c a w v) hB hah.1 ops.size fuel listed a w (.inr (.inl ⟨hgd, fun w _ => by rw [hy w]; exact ⟨rfl, rfl⟩⟩)) (closed_of hah.2)
    (Region.free_spec (op_of_drop hi) hf) (by simpa using hr) (.inl ⟨hgd, fun w hw => by rw [hy w]; exact ⟨rfl, rfl⟩⟩) h

/-- a call that always hands back the same, in each world of the class -/
theorem wpW_call (i : Nat) {ws : List Nat} {oi : Oper} {tl : List Oper} {fuel : Nat} {listed : Array Bool} {a : Act} {w : World} (hB : Keeps S) (hi : ops.toList.drop i = oi :: tl)
    (hs : Region.noSelect ops = true) (hf : Region.free md ops listed i = true) (hr : (Region.ready md ops listed).contains i = true) (hah : aheadB md ops ws listed i = true) (hgd : Region.wanted oi (yielded ops a.tmps) = true)
    (hQ : ∀ c a w v, Q (.panic c) (a.put oi.dst v) w → Q (.panic c) a w) (f : FuncId) (args : Array Value) (hrun : ∀ w, (execOp a.eval oi).run P w = .ok (.enter f args) w) (v : Value)
    (hc : ∀ w, S w → Calls P f args w fun e w' => e = .returned v ∧ Below w.heap.size w w')
    (h : wpW P md ops Q S ws fuel (listed.setIfInBounds i true) (a.put oi.dst v) w) : wpW P md ops Q S ws (fuel + 1) listed a w := by
  simp only [aheadB, Bool.and_eq_true, Bool.not_eq_true'] at hah
  exact wpW_first (op_of_drop hi) (Region.noSelect_spec hs) (fun c a w => hQ c a w v) hB hah.1.1 ops.size fuel listed a w (.inl fun j hj => List.all_eq_true.1 hah.2 j (by simpa using hj)) (closed_of hah.1.2)
    (Region.free_spec (op_of_drop hi) hf) (by simpa using hr) (.inl ⟨hgd, fun w hw => by rw [hrun w]; exact ⟨rfl, hc w hw⟩⟩) h

theorem wpW_done {ws : List Nat} {fuel : Nat} {listed : Array Bool} {a : Act} {w : World} (hr : Region.ready md ops listed = []) (h : ∀ w1, Below w.heap.size w w1 → S w1 → Q .normal a w1) : wpW P md ops Q S ws fuel listed a w := by
  cases fuel with
  | zero => exact ⟨hr, h⟩
  | succ n => exact fun w1 b1 s1 => ⟨fun _ => h w1 b1 s1, by rw [hr]; simp⟩

/-- the one that may come up: it makes memory, or is a call whose result is open -/
theorem wpW_one (i : Nat) {ws : List Nat} {oi : Oper} {tl : List Oper} {fuel : Nat} {listed : Array Bool} {a : Act} {w : World} (hi : ops.toList.drop i = oi :: tl) (hr : Region.ready md ops listed = [i]) (hw : ws.contains i = false) (hgd : Region.wanted oi (yielded ops a.tmps) = true)
    (h : ∀ w1, Below w.heap.size w w1 → S w1 → oi.wp P a w1 (fun a' w' => S w' ∧ wpW P md ops Q S ws fuel (listed.setIfInBounds i true) a' w') Q) : wpW P md ops Q S ws (fuel + 1) listed a w :=
  fun w1 b1 s1 => ⟨fun h0 => (by rw [hr] at h0; cases h0), fun j hj => by
    obtain rfl : j = i := by rw [hr] at hj; simpa using hj
    exact wpOp_step (op_of_drop hi) (fun K' hK => by
      rw [if_pos hgd]
      refine Oper.wp_mono (fun a' w' h' => hK a' w' ?_) (h w1 b1 s1)
      rw [if_neg (by rw [hw]; simp)]
      exact h')⟩

/-- the one that may come up writes -/
theorem wpW_write (i : Nat) {ws : List Nat} {oi : Oper} {tl : List Oper} {fuel : Nat} {listed : Array Bool} {a : Act} {w : World} (hi : ops.toList.drop i = oi :: tl) (hr : Region.ready md ops listed = [i]) (hw : ws.contains i = true) (hgd : Region.wanted oi (yielded ops a.tmps) = true)
    (h : ∀ w1, Below w.heap.size w w1 → S w1 → oi.wp P a w1 (fun a' w' => wpU P md ops Q (fun _ => True) fuel (listed.setIfInBounds i true) a' w') Q) : wpW P md ops Q S ws (fuel + 1) listed a w :=
  fun w1 b1 s1 => ⟨fun h0 => (by rw [hr] at h0; cases h0), fun j hj => by
    obtain rfl : j = i := by rw [hr] at hj; simpa using hj
    exact wpOp_step (op_of_drop hi) (fun K' hK => by
      rw [if_pos hgd]
      refine Oper.wp_mono (fun a' w' h' => hK a' w' ?_) (h w1 b1 s1)
      rw [if_pos hw]
      exact h')⟩

/-- a store of one cell of a block that is known whole -/
theorem wpW_store_cell (i : Nat) {ws : List Nat} {oi : Oper} {tl : List Oper} {fuel : Nat} {listed : Array Bool} {a : Act} {w : World} (hi : ops.toList.drop i = oi :: tl) (hr : Region.ready md ops listed = [i]) (hw : ws.contains i = true) (hgd : Region.wanted oi (yielded ops a.tmps) = true)
    (ty : TypeId) (x y : Operand) (ho : oi.op = .store ty x y) {g : Nat} {T : TypeId} {old : Array Value} (hg : Box w g T old) (j : Nat) {k : IntKind} {n : Int} (hx : a.eval x = .pointer (some ⟨g, j, none⟩)) (hy : a.eval y = .int k n) (hj : j < old.size) (hz : ∀ w, (sizeOf ty).run P w = .ok 1 w)
    (h : ∀ w1 w', Below w.heap.size w w1 → S w1 → Box w' g T (old.setIfInBounds j (.int k n)) → But (fun k => k = g) w1 w' → wpU P md ops Q (fun _ => True) fuel (listed.setIfInBounds i true) (a.put oi.dst undef) w') : wpW P md ops Q S ws (fuel + 1) listed a w :=
  wpW_write i hi hr hw hgd (fun w1 b1 s1 =>
    have h1 := hg.after b1
    wp_store_cell ty x y ho hx hy (h1.cell j (Array.getElem?_eq_getElem hj)) (h1.frozen j) hz (h w1 _ b1 s1 (h1.set j _) ((But.refl (fun k => k = g) w1).setCell (p := ⟨g, j, none⟩) (.inl rfl) _)))

/-- a store of a whole array or struct -/
theorem wpW_store_box (i : Nat) {ws : List Nat} {oi : Oper} {tl : List Oper} {fuel : Nat} {listed : Array Bool} {a : Act} {w : World} (hi : ops.toList.drop i = oi :: tl) (hr : Region.ready md ops listed = [i]) (hw : ws.contains i = true) (hgd : Region.wanted oi (yielded ops a.tmps) = true)
    (ty : TypeId) (x y : Operand) (ho : oi.op = .store ty x y) {g : Nat} {T : TypeId} {old cells : Array Value} (hg : Box w g T old) (hx : a.eval x = .pointer (some ⟨g, 0, none⟩)) (hy : a.eval y = .agg cells) (hsz : old.size = cells.size)
    (hi' : (P.info? ty).map (·.size) = some cells.size) (h1 : cells.all (·.oneCell') = true)
    (h : ∀ w1 w', Below w.heap.size w w1 → S w1 → Box w' g T cells → Stored w1 w' g → wpU P md ops Q (fun _ => True) fuel (listed.setIfInBounds i true) (a.put oi.dst undef) w') : wpW P md ops Q S ws (fuel + 1) listed a w :=
  wpW_write i hi hr hw hgd (fun w1 b1 s1 => wp_store_box ty x y ho (hg.after b1) hx hy hsz hi' h1 (fun w' hb st => h w1 w' b1 s1 hb st))
end Go.Proofs.YtkbblhioncecmaaDoor
namespace Go.Proofs.YtkbblhioncecmaaDoor
open Go.RowKit
set_option linter.unusedSimpArgs false
set_option linter.unusedVariables false

/-- out has been written on -/
def PutP (v : Value) (B : Nat) (l : List UInt8) (w : World) (e : Ending) (w' : World) : Prop :=
  ∃ v', e = .returned v' ∧ OwnB w' B v' l ∧ But (fun k => v.ownBlock = some k) w w' ∧ (∀ k, v'.ownBlock = some k → v.ownBlock = some k ∨ w.heap.size ≤ k)

set_option maxHeartbeats 1000000 in
set_option maxRecDepth 100000 in
theorem put_any (v : Value) (l : List UInt8) (a : Option Addr) (n c : Nat) (lb : List UInt8) (B : Nat) (w : World) (ho : OwnB w B v l) (hB : B ≤ w.heap.size) (hs : Sl w a n c lb) (hi : InB (fun k => v.ownBlock ≠ some k) a n) (ht : Tab w)
    (hn : n ≤ 35184372088832) (hl : l.length ≤ 35184372088832) : Calls Tryd.prog 58 #[v, .slice a n c] w (PutP v B (l ++ textL lb) w) := by
  have HS := Lib.hid hs
  have HL := Lib.hid hs.1
  have HI := Lib.hid hi
  have HO := Lib.hid ho
  have HT := Lib.hid ht
  have hk := numL_len (n : Int) (by omega)
  obtain ⟨d, hd⟩ : ∃ d, d = numL n := ⟨_, rfl⟩
  rw [← hd] at hk
  have HD := Lib.hid hd
  clear hs ho ht hi hd
  go_enter Tryd.func58, Tryd.ntmps58
  go_wp2_with fail
  refine (putLen_any n (by omega) (by omega) _ HT.out).mono ?_
  rintro e w1 ⟨rfl, hb1⟩
  rw [← HD.out]
  have HO1 := Lib.hid (HO.out.after hb1)
  have z1 := hb1.size
  go_upto_region 2 with (refine wpList_append_S3 rfl _ _ rfl rfl HO1.out (l2 := d) rfl (by omega) (by omega) ?_; intro v2 w2 ho2 hg2 hw2)
  have hb2 : But (fun k => v.ownBlock = some k) w w2 := (But.ofBelow hb1).trans (But.ofGrown hg2 (fun k e => e)) (fun k hk => .inl hk)
  have z2 := hb2.size
  have hw2' : ∀ k, v2.ownBlock = some k → v.ownBlock = some k ∨ w.heap.size ≤ k := fun k hk => (hw2 k hk).imp id (fun h => Nat.le_trans z1 h)
  have HO2 := Lib.hid ho2
  have HB2 := Lib.hid hb2
  have HW2 := Lib.hid hw2'
  clear ho2 hb2 hg2 hw2 hw2' HO1 hb1
  go_upto_region 3 with (refine wpList_append_B3 rfl _ _ rfl rfl (OwnG.alloc HO2.out _) (l2 := [58]) rfl (sl_cell1 _ 58 _ rfl) (by simp only [List.length_append]; omega) (by simp; omega) ?_; intro v3 w3 ho3 hg3 hw3)
  have hb3 : But (fun k => v.ownBlock = some k) w w3 := (HB2.out.alloc _).trans (But.ofGrown hg3 (fun k e => e)) (fun k hk => HW2.out k hk)
  have hw3' : ∀ k, v3.ownBlock = some k → v.ownBlock = some k ∨ w.heap.size ≤ k := fun k hk => (hw3 k hk).elim (HW2.out k) (fun h => .inr (by simp at h; omega))
  have HO3 := Lib.hid ho3
  have HB3 := Lib.hid hb3
  have HW3 := Lib.hid hw3'
  have z3 := hb3.size
  clear ho3 hb3 hg3 hw3 hw3' HO2 HB2 HW2
  go_wp2_with (refine wpList_append_B3 rfl _ _ rfl rfl HO3.out (l2 := lb) rfl (HS.out.but HB3.out HI.out (fun k h => h)) (by simp only [List.length_append, List.length_cons, List.length_nil]; omega) (by omega) ?_; intro v4 w4 ho4 hg4 hw4)
  have hb4 : But (fun k => v.ownBlock = some k) w w4 := HB3.out.trans (But.ofGrown hg4 (fun k e => e)) (fun k hk => HW3.out k hk)
  go_ret
  refine ⟨v4, rfl, ?_, hb4, fun k hk => (hw4 k hk).elim (HW3.out k) (fun h => .inr (by omega))⟩
  rwa [show l ++ d ++ [58] ++ lb = l ++ textL lb by unfold textL; rw [HD.out, HL.out]; simp] at ho4

/-- what is added to the sum of bytes -/
theorem textL_length (l : List UInt8) : (textL l).length = (numL l.length).length + 1 + l.length := by simp [textL]; omega

set_option maxHeartbeats 1000000 in
set_option maxRecDepth 100000 in
theorem cbytes_any (g N S : Nat) (a : Option Addr) (n c : Nat) (lb : List UInt8) (w : World) (hg : Box w g 89 #[.int .i64 N, .int .i64 S]) (hn : n ≤ 35184372088832) (hS : S ≤ 35184372088832) (hln : n = lb.length) (ht : Tab w) :
    Calls Tryd.prog 77 #[.pointer (some ⟨g, 0, none⟩), .slice a n c] w fun e w' => e = .returned (.tuple #[]) ∧ Box w' g 89 #[.int .i64 N, .int .i64 (S + (textL lb).length : Nat)] ∧ But (fun k => k = g) w w' := by
  have HG := Lib.hid hg
  have HT := Lib.hid ht
  have hk := numL_len (n : Int) (by omega)
  obtain ⟨d, hd⟩ : ∃ d, d = numL n := ⟨_, rfl⟩
  rw [← hd] at hk
  have HE : Hid (((S + (textL lb).length : Nat) : Int) = (S : Int) + ((d.length : Int) + 1 + (n : Int))) := Lib.hid (by rw [textL_length, ← hln, ← hd]; omega)
  have HD := Lib.hid hd
  have HPL := Lib.hid (fun w1 h => putLen_any n (by omega) (by omega) w1 h)
  rw [← hd] at HPL
  have c1 := hg.cell 1 rfl
  clear hg ht hd hln
  have e1 : IntKind.i64.wrap ((d.length : Int) + 1) = (d.length : Int) + 1 := IntWalk.i64_in _ ⟨by omega, by omega⟩
  have e2 : IntKind.i64.wrap ((d.length : Int) + 1 + (n : Int)) = (d.length : Int) + 1 + (n : Int) := IntWalk.i64_in _ ⟨by omega, by omega⟩
  have e3 : IntKind.i64.wrap ((S : Int) + ((d.length : Int) + 1 + (n : Int))) = (S : Int) + ((d.length : Int) + 1 + (n : Int)) := IntWalk.i64_in _ ⟨by omega, by omega⟩
  have E1 := Lib.hid e1
  have E2 := Lib.hid e2
  have E3 := Lib.hid e3
  clear e1 e2 e3
  go_enter Tryd.func77, Tryd.ntmps77
  go_upto_region 0 with fail
  have hKS : Keeps (fun w' => Box w' g 89 #[.int .i64 N, .int .i64 S] ∧ Tab w') := fun w w' h b => ⟨h.1.after b, h.2.after b⟩
  refine wp_region_W (w := w) [15] (fun w' => Box w' g 89 #[.int .i64 N, .int .i64 S] ∧ Tab w') rfl ⟨HG.out.drew, HT.out.after ((Below.refl _ _).drew)⟩ ?_
  refine wpW_val 0 hKS rfl (by kernel_rfl) (by kernel_rfl) (by kernel_rfl) (by kernel_rfl) rfl (fun _ _ _ _ h => h) (.pointer (some ⟨g, 0, none⟩)) (fun w' h => by simp [go_sem]) ?_
  simp only [Act.put, List.setIfInBounds_toArray, List.set_cons_zero, List.set_cons_succ]
  refine wpW_val 1 hKS rfl (by kernel_rfl) (by kernel_rfl) (by kernel_rfl) (by kernel_rfl) rfl (fun _ _ _ _ h => h) (.pointer (some ⟨g, 0, none⟩)) (fun w' h => by simp [go_sem]) ?_
  simp only [Act.put, List.setIfInBounds_toArray, List.set_cons_zero, List.set_cons_succ]
  refine wpW_val 2 hKS rfl (by kernel_rfl) (by kernel_rfl) (by kernel_rfl) (by kernel_rfl) rfl (fun _ _ _ _ h => h) (.pointer (some ⟨g, 1, none⟩)) (fun w' h => by simp [go_sem]) ?_
  simp only [Act.put, List.setIfInBounds_toArray, List.set_cons_zero, List.set_cons_succ]
  refine wpW_val 3 hKS rfl (by kernel_rfl) (by kernel_rfl) (by kernel_rfl) (by kernel_rfl) rfl (fun _ _ _ _ h => h) (.int .i64 S) (fun w' h => by simp [go_sem, h.1.cell 1 rfl]) ?_
  simp only [Act.put, List.setIfInBounds_toArray, List.set_cons_zero, List.set_cons_succ]
  refine wpW_val 4 hKS rfl (by kernel_rfl) (by kernel_rfl) (by kernel_rfl) (by kernel_rfl) rfl (fun _ _ _ _ h => h) (.slice a n c) (fun w' h => by simp [go_sem]) ?_
  simp only [Act.put, List.setIfInBounds_toArray, List.set_cons_zero, List.set_cons_succ]
  refine wpW_val 5 hKS rfl (by kernel_rfl) (by kernel_rfl) (by kernel_rfl) (by kernel_rfl) rfl (fun _ _ _ _ h => h) (.int .i64 n) (fun w' h => by simp [go_sem]) ?_
  simp only [Act.put, List.setIfInBounds_toArray, List.set_cons_zero, List.set_cons_succ]
  refine wpW_call 6 hKS rfl (by kernel_rfl) (by kernel_rfl) (by kernel_rfl) (by kernel_rfl) rfl (fun _ _ _ _ h => h) 85 #[.int .i64 n] (fun w => by simp [go_sem]) (.string ⟨d.toArray⟩) (fun w' h => HPL.out w' h.2) ?_
  simp only [Act.put, List.setIfInBounds_toArray, List.set_cons_zero, List.set_cons_succ]
  refine wpW_val 7 hKS rfl (by kernel_rfl) (by kernel_rfl) (by kernel_rfl) (by kernel_rfl) rfl (fun _ _ _ _ h => h) (.int .i64 d.length) (fun w' h => by simp [go_sem]; first | done | rfl) ?_
  simp only [Act.put, List.setIfInBounds_toArray, List.set_cons_zero, List.set_cons_succ]
  refine wpW_val 8 hKS rfl (by kernel_rfl) (by kernel_rfl) (by kernel_rfl) (by kernel_rfl) rfl (fun _ _ _ _ h => h) (.int .i64 ((d.length : Int) + 1)) (fun w' h => by simp [go_sem, E1.out]) ?_
  simp only [Act.put, List.setIfInBounds_toArray, List.set_cons_zero, List.set_cons_succ]
  refine wpW_val 9 hKS rfl (by kernel_rfl) (by kernel_rfl) (by kernel_rfl) (by kernel_rfl) rfl (fun _ _ _ _ h => h) (.slice a n c) (fun w' h => by simp [go_sem]) ?_
  simp only [Act.put, List.setIfInBounds_toArray, List.set_cons_zero, List.set_cons_succ]
  refine wpW_val 10 hKS rfl (by kernel_rfl) (by kernel_rfl) (by kernel_rfl) (by kernel_rfl) rfl (fun _ _ _ _ h => h) (.int .i64 n) (fun w' h => by simp [go_sem]) ?_
  simp only [Act.put, List.setIfInBounds_toArray, List.set_cons_zero, List.set_cons_succ]
  refine wpW_val 11 hKS rfl (by kernel_rfl) (by kernel_rfl) (by kernel_rfl) (by kernel_rfl) rfl (fun _ _ _ _ h => h) (.int .i64 ((d.length : Int) + 1 + (n : Int))) (fun w' h => by simp [go_sem, E2.out]) ?_
  simp only [Act.put, List.setIfInBounds_toArray, List.set_cons_zero, List.set_cons_succ]
  refine wpW_val 12 hKS rfl (by kernel_rfl) (by kernel_rfl) (by kernel_rfl) (by kernel_rfl) rfl (fun _ _ _ _ h => h) (.int .i64 ((S : Int) + ((d.length : Int) + 1 + (n : Int)))) (fun w' h => by simp [go_sem, E3.out]) ?_
  simp only [Act.put, List.setIfInBounds_toArray, List.set_cons_zero, List.set_cons_succ]
  refine wpW_val 13 hKS rfl (by kernel_rfl) (by kernel_rfl) (by kernel_rfl) (by kernel_rfl) rfl (fun _ _ _ _ h => h) (.pointer (some ⟨g, 0, none⟩)) (fun w' h => by simp [go_sem]) ?_
  simp only [Act.put, List.setIfInBounds_toArray, List.set_cons_zero, List.set_cons_succ]
  refine wpW_val 14 hKS rfl (by kernel_rfl) (by kernel_rfl) (by kernel_rfl) (by kernel_rfl) rfl (fun _ _ _ _ h => h) (.pointer (some ⟨g, 1, none⟩)) (fun w' h => by simp [go_sem]) ?_
  simp only [Act.put, List.setIfInBounds_toArray, List.set_cons_zero, List.set_cons_succ]
  refine wpW_store_cell 15 rfl (by kernel_rfl) rfl rfl 3 _ _ rfl HG.out.drew 1 rfl rfl (show 1 < 2 by decide) (fun w => by simp [go_sem]) ?_
  intro w1 w2 b1 s1 hbx st
  refine wpU_done (by kernel_rfl) ?_
  intro w3 b3 _
  simp only [Act.put]
  have HB := (((But.refl (fun k => k = g) w).drew.trans (But.ofBelow (S := fun k => k = g) b1) (fun k hk => .inl hk)).trans st (fun k hk => .inl hk)).trans (But.ofBelow (S := fun k => k = g) b3) (fun k hk => .inl hk)
  have hb3 := hbx.after b3
  rw [← HE.out] at hb3
  clear hKS b1 b3 st s1 hbx
  go_end0
  exact ⟨rfl, hb3, HB⟩

end Go.Proofs.YtkbblhioncecmaaDoor
namespace Go.Proofs.YtkbblhioncecmaaDoor
open Go.RowKit
set_option linter.unusedSimpArgs false
set_option linter.unusedVariables false

/-- the table stays, whatever of the set is touched -/
def TabX (S : Nat → Prop) (w : World) : Prop := ∀ w', But S w w' → Tab w'
theorem TabX.but {S : Nat → Prop} {w w1 : World} (h : TabX S w) (hb : But S w w1) : TabX S w1 := fun w' hb' => h w' (hb.trans hb' fun k hk => .inl hk)
theorem TabX.tab {S : Nat → Prop} {w : World} (h : TabX S w) : Tab w := h w (But.refl _ _)
theorem TabX.new {S : Nat → Prop} {w w1 : World} (h : Tab w) (hb : Below w.heap.size w w1) (hS : ∀ k, S k → w.heap.size ≤ k) : TabX S w1 := fun w' hb' => h.after (But.after hb hb' hb.size hS)

/-- may it be, so deep, behind N others? -/
def Sx.okR (s : Sx) (d N : Nat) : Bool := s.clean && decide (N + s.nodes ≤ 512) && decide (s.deep + d ≤ 17)
theorem nodes_pos (s : Sx) : 1 ≤ s.nodes := by obtain ⟨l, h, hi, da, ks⟩ := s; simp only [Sx.nodes]; omega
theorem okR_many {s : Sx} {d N : Nat} (h : 512 ≤ N) : s.okR d N = false := by
  have := nodes_pos s
  unfold Sx.okR
  rw [decide_eq_false (show ¬ N + s.nodes ≤ 512 by omega)]
  simp
theorem okR_unclean {s : Sx} {d N : Nat} (h : s.clean = false) : s.okR d N = false := by unfold Sx.okR; rw [h]; rfl
theorem okR_deep {h : Bool} {hi da : List UInt8} {ks : List Sx} {d N : Nat} (hd : 16 < d) : (Sx.mk true h hi da ks).okR d N = false := by
  unfold Sx.okR
  rw [decide_eq_false (show ¬ (Sx.mk true h hi da ks).deep + d ≤ 17 by simp only [Sx.deep, if_true]; omega)]
  simp
theorem okR_atom {h : Bool} {hi da : List UInt8} {d N : Nat} (hN : N < 512) (hd : d ≤ 17) (hh : headOk false h hi.length da.length 0 = true) : (Sx.mk false h hi da []).okR d N = true := by
  unfold Sx.okR
  rw [clean_def, show ([] : List Sx).length = 0 from rfl, hh, decide_eq_true (show N + (Sx.mk false h hi da []).nodes ≤ 512 by simp only [Sx.nodes, Sx.nodesL]; omega), decide_eq_true (show (Sx.mk false h hi da []).deep + d ≤ 17 by simp [Sx.deep]; omega)]
  rfl
theorem nodesL_take {ks : List Sx} (k : Nat) (h : k < ks.length) : Sx.nodesL (ks.take k) + ks[k].nodes ≤ Sx.nodesL ks := by
  have := Sx.nodesL_append (ks.take (k + 1)) (ks.drop (k + 1))
  rw [List.take_append_drop, Sx.nodesL_snoc ks k h] at this
  omega
theorem okR_kid {h : Bool} {hi da : List UInt8} {ks : List Sx} {d N : Nat} (k : Nat) (hk : k < ks.length) (h0 : ks[k].okR (d + 1) (N + 1 + Sx.nodesL (ks.take k)) = false) : (Sx.mk true h hi da ks).okR d N = false := by
  have h1 := nodesL_take k hk
  have h2 := Sx.deepL_mem (List.getElem_mem hk)
  unfold Sx.okR at h0 ⊢
  simp only [Bool.and_eq_false_iff, decide_eq_false_iff_not] at h0 ⊢
  simp only [Sx.nodes, Sx.deep, if_true]
  rcases h0 with (h0 | h0) | h0
  · exact .inl (.inl (by rw [clean_def, Sx.cleanL_no (List.getElem_mem hk) h0]; simp))
  · exact .inl (.inr (by omega))
  · exact .inr (by omega)
theorem deepL_all {ks : List Sx} {n : Nat} (h : ∀ k (hk : k < ks.length), ks[k].deep ≤ n) : Sx.deepL ks ≤ n :=
  deepL_le fun k hk => by obtain ⟨i, hi, rfl⟩ := List.getElem_of_mem hk; exact h i hi
theorem okR_list {hi da : List UInt8} {ks : List Sx} {d N : Nat} (hd : d ≤ 16) (hN : N < 512) (hh : headOk true false hi.length da.length ks.length = true) (ha : Sx.cleanL ks = true ∧ Sx.deepL ks + d ≤ 16 ∧ (N + 1 + Sx.nodesL ks ≤ 512)) : (Sx.mk true false hi da ks).okR d N = true := by
  unfold Sx.okR
  rw [clean_def, hh, ha.1, decide_eq_true (show N + (Sx.mk true false hi da ks).nodes ≤ 512 by simp only [Sx.nodes]; omega), decide_eq_true (show (Sx.mk true false hi da ks).deep + d ≤ 17 by simp only [Sx.deep, if_true]; omega)]
  rfl
theorem okR_parts {s : Sx} {d N : Nat} (h : s.okR d N = true) : s.clean = true ∧ N + s.nodes ≤ 512 ∧ s.deep + d ≤ 17 := by
  unfold Sx.okR at h
  simpa [and_assoc] using h
theorem may_okR (s : Sx) : s.may = (s.okR 1 0 && decide (s.form.length ≤ 4096)) := by
  unfold Sx.may Sx.okR
  rw [Nat.zero_add, show decide (s.deep + 1 ≤ 17) = decide (s.deep ≤ 16) from decide_eq_decide.2 (by omega)]

def RightP (g : Nat) (ok : Bool) (N S : Nat) (w : World) (e : Ending) (w' : World) : Prop :=
  ∃ N2 S2 : Nat, e = .returned (.bool ok) ∧ Box w' g 89 #[.int .i64 N2, .int .i64 S2] ∧ (ok = true → N2 = N ∧ S2 = S) ∧ But (fun k => k = g) w w'

set_option maxHeartbeats 8000000 in
set_option maxRecDepth 100000 in
theorem right_any (s : Sx) : ∀ (v : SV) (g N S d m : Nat) (w : World), Box w g 89 #[.int .i64 N, .int .i64 S] → RdI (fun k => k ≠ g) w v s → s.wide m = false → TabX (fun k => k = g) w → N ≤ 512 → S ≤ 20000 * N → d ≤ 17 →
    Calls Tryd.prog 55 #[.pointer (some ⟨g, 0, none⟩), v.val, .int .i64 d] w (RightP g (s.okR d N) (N + s.nodes) (S + s.form.length) w) := by
  induction s using Sx.ind with
  | h l hh hi da ks ih =>
  intro v g N S d m w hg hr hwd htx hN hS hd
  have HRR := Lib.hid hr
  obtain ⟨hvl, hvh, hs1, hs2, hn, hnc, hcm, K, hrow, hk⟩ := hr.parts
  obtain ⟨vl, vh, a1, n1, k1, a2, n2, k2, a3, n3, k3⟩ := v
  dsimp only at hn hnc hcm hrow hk hvl hvh hs1 hs2
  obtain rfl : vl = l := hvl
  obtain rfl : vh = hh := hvh
  replace hn : n3 = ks.length := hn
  replace hs1 : Sl w a1 n1 k1 hi := hs1
  replace hs2 : Sl w a2 n2 k2 da := hs2
  replace hk : ∀ i (hi : i < ks.length), RdI (fun k => k ≠ g) w (K i) ks[i] := hk
  obtain ⟨l1, hl1⟩ : ∃ l1, l1 = hi := ⟨_, rfl⟩
  have hn1 := hs1.1
  have hn2 := hs2.1
  have hm1 := hs1.2.1
  have hm2 := hs2.2.1
  have hx1 := hs1.2.2.1
  have hx2 := hs2.2.2.1
  have IH := Lib.hid ih
  have HK := Lib.hid hk
  have HR := Lib.hid hrow
  have HS1 := Lib.hid hs1
  have HS2 := Lib.hid hs2
  have HN1 := Lib.hid hn1
  have HN2 := Lib.hid hn2
  clear ih hk hrow hr hs1 hs2 hn1 hn2 hl1
  subst hn
  obtain ⟨hm60, _, hw1, hw2, hwk⟩ := wide_no hwd
  replace hw1 : hi.length ≤ 5000 := hw1
  replace hw2 : da.length ≤ 5000 := hw2
  have hn1 : n1 ≤ 5000 := by have := HN1.out; omega
  have hn2 : n2 ≤ 5000 := by have := HN2.out; omega
  have HWK := Lib.hid hwk
  have HTX := Lib.hid htx
  have hfw := form_wide _ m hwd
  have HFW := Lib.hid hfw
  have hgl := hg.lt
  unfold maxLen at hcm
  clear hwk hwd htx hfw hx1 hx2 hm1 hm2 hm60
  have hgne : g ≠ w.heap.size := by omega
  by_cases hmany : N = 512
  case pos =>
    have hmany' : (512 : Int) < (N : Int) + 1 := by omega
    replace hmany := Nat.le_of_eq hmany.symm
    have X0 := Box.new w 26 #[.bool vl, .bool vh, .slice a1 n1 k1, .slice a2 n2 k2, .slice a3 ks.length k3]
    have G0 := hg.alloc (.cells #[.bool vl, .bool vh, .slice a1 n1 k1, .slice a2 n2 k2, .slice a3 ks.length k3] 26)
    have B0 : But (fun k => k = g) w (w.alloc (.cells #[.bool vl, .bool vh, .slice a1 n1 k1, .slice a2 n2 k2, .slice a3 ks.length k3] 26)) := (But.refl (fun k => k = g) w).alloc _
    show Calls _ _ #[.pointer (some ⟨g, 0, none⟩), .agg #[.bool vl, .bool vh, .slice a1 n1 k1, .slice a2 n2 k2, .slice a3 ks.length k3], .int .i64 d] _ _
    go_enter Tryd.func55, Tryd.ntmps55
    go_upto_region 1 with fail
    change Code.wp _ _ _ _ (w.alloc (.cells #[.bool vl, .bool vh, .slice a1 n1 k1, .slice a2 n2 k2, .slice a3 ks.length k3] 26))
    generalize (w.alloc (.cells #[.bool vl, .bool vh, .slice a1 n1 k1, .slice a2 n2 k2, .slice a3 ks.length k3] 26)) = v0 at *
    have c0 := G0.cell 0 rfl
    have f0 := G0.frozen 0
    have e1 : IntKind.i64.wrap ((N : Int) + 1) = (N : Int) + 1 := IntWalk.i64_in _ ⟨by omega, by omega⟩
    go_upto_region 2 with fail
    have X1 := X0.far ⟨g, 0, none⟩ (.int .i64 ((N : Int) + 1)) (Ne.symm hgne)
    have G1 := G0.set 0 (.int .i64 ((N : Int) + 1))
    have B1 := B0.setCell (p := ⟨g, 0, none⟩) (.inl rfl) (.int .i64 ((N : Int) + 1))
    change Code.wp _ _ _ _ (v0.setCell ⟨g, 0, none⟩ (.int .i64 ((N : Int) + 1)))
    clear X0 G0 B0 c0 f0 e1 hg
    generalize (v0.setCell ⟨g, 0, none⟩ (.int .i64 ((N : Int) + 1))) = v1 at *
    replace G1 : Box v1 g 89 #[.int .i64 ((N : Int) + 1), .int .i64 S] := G1
    have c0 := G1.cell 0 rfl
    go_wp2_with fail
    go_ret
    exact ⟨N + 1, S, by rw [okR_many (by omega)]; rfl, by have := G1; rwa [show ((N + 1 : Nat) : Int) = (N : Int) + 1 by omega], (fun h => by rw [okR_many (by omega)] at h; cases h), B1⟩
  replace hmany : N < 512 := by omega
  have hmany' : ¬ (512 : Int) < (N : Int) + 1 := by omega
  cases vl with
  | false =>
    cases vh with
    | false =>
      have X0 := Box.new w 26 #[.bool false, .bool false, .slice a1 n1 k1, .slice a2 n2 k2, .slice a3 ks.length k3]
      have G0 := hg.alloc (.cells #[.bool false, .bool false, .slice a1 n1 k1, .slice a2 n2 k2, .slice a3 ks.length k3] 26)
      have B0 : But (fun k => k = g) w (w.alloc (.cells #[.bool false, .bool false, .slice a1 n1 k1, .slice a2 n2 k2, .slice a3 ks.length k3] 26)) := (But.refl (fun k => k = g) w).alloc _
      show Calls _ _ #[.pointer (some ⟨g, 0, none⟩), .agg #[.bool false, .bool false, .slice a1 n1 k1, .slice a2 n2 k2, .slice a3 ks.length k3], .int .i64 d] _ _
      go_enter Tryd.func55, Tryd.ntmps55
      go_upto_region 1 with fail
      change Code.wp _ _ _ _ (w.alloc (.cells #[.bool false, .bool false, .slice a1 n1 k1, .slice a2 n2 k2, .slice a3 ks.length k3] 26))
      generalize (w.alloc (.cells #[.bool false, .bool false, .slice a1 n1 k1, .slice a2 n2 k2, .slice a3 ks.length k3] 26)) = v0 at *
      have c0 := G0.cell 0 rfl
      have f0 := G0.frozen 0
      have e1 : IntKind.i64.wrap ((N : Int) + 1) = (N : Int) + 1 := IntWalk.i64_in _ ⟨by omega, by omega⟩
      go_upto_region 2 with fail
      have X1 := X0.far ⟨g, 0, none⟩ (.int .i64 ((N : Int) + 1)) (Ne.symm hgne)
      have G1 := G0.set 0 (.int .i64 ((N : Int) + 1))
      have B1 := B0.setCell (p := ⟨g, 0, none⟩) (.inl rfl) (.int .i64 ((N : Int) + 1))
      change Code.wp _ _ _ _ (v0.setCell ⟨g, 0, none⟩ (.int .i64 ((N : Int) + 1)))
      clear X0 G0 B0 c0 f0 e1 hg
      generalize (v0.setCell ⟨g, 0, none⟩ (.int .i64 ((N : Int) + 1))) = v1 at *
      replace G1 : Box v1 g 89 #[.int .i64 ((N : Int) + 1), .int .i64 S] := G1
      have X1' := X1
      have c0 := G1.cell 0 rfl
      have l0 := X1.cell 0 rfl
      have l1 := X1.cell 1 rfl
      go_upto_region 8 with fail
      clear c0 l0 l1 X1'
      replace G1 : Box v1 g 89 #[.int .i64 ((N + 1 : Nat) : Int), .int .i64 S] := by rw [show ((N + 1 : Nat) : Int) = (N : Int) + 1 by omega]; exact G1
      have cc := X1.cell 3 rfl
      go_wp2_with fail
      refine (cbytes_any g (N + 1) (S) _ n2 _ da v1 G1 (by omega) (by omega) HN2.out (HTX.out _ B1)).mono ?_
      rintro e v2 ⟨rfl, G2, b2⟩
      have X2 := b2.box X1 (by omega)
      have B2 := B1.trans b2 (fun k hk => .inl hk)
      clear cc X1 G1 b2
      have c4 := X2.cell 4 rfl
      have c1 := X2.cell 1 rfl
      have c2 := X2.cell 2 rfl
      by_cases hk0 : ks.length = 0
      case neg =>
        have hk0' : ((ks.length : Int) == 0) = false := beq_eq_false_iff_ne.2 (by omega)
        have HU : Hid ((Sx.mk false false hi da ks).okR d N = false) := Lib.hid (okR_unclean (by rw [clean_def, headOk5 _ _ _ (by omega)]; rfl))
        go_wp2_with fail
        go_ret
        exact ⟨N + 1, S + (textL da).length, by rw [HU.out]; rfl, G2, (fun h => by rw [HU.out] at h; cases h), B2⟩
      have hks : ks = [] := List.eq_nil_of_length_eq_zero hk0
      subst hks
      by_cases h1 : n1 = 0
      · subst h1
        have HU : Hid ((Sx.mk false false hi da []).okR d N = true) := Lib.hid (okR_atom hmany hd (headOk8 _ (by have := HN1.out; omega) rfl))
        go_wp2_with fail
        go_ret
        exact ⟨N + 1, S + (textL da).length, by rw [HU.out]; rfl, G2, (fun _ => ⟨by simp [Sx.nodes, Sx.nodesL], by rw [form_def]; simp; try omega⟩), B2⟩
      · have h1' : ((n1 : Int) == 0) = false := beq_eq_false_iff_ne.2 (by omega)
        have HU : Hid ((Sx.mk false false hi da []).okR d N = false) := Lib.hid (okR_unclean (by rw [clean_def, headOk7 _ _ (by have := HN1.out; omega)]; rfl))
        go_wp2_with fail
        go_ret
        exact ⟨N + 1, S + (textL da).length, by rw [HU.out]; rfl, G2, (fun h => by rw [HU.out] at h; cases h), B2⟩
    | true =>
      have X0 := Box.new w 26 #[.bool false, .bool true, .slice a1 n1 k1, .slice a2 n2 k2, .slice a3 ks.length k3]
      have G0 := hg.alloc (.cells #[.bool false, .bool true, .slice a1 n1 k1, .slice a2 n2 k2, .slice a3 ks.length k3] 26)
      have B0 : But (fun k => k = g) w (w.alloc (.cells #[.bool false, .bool true, .slice a1 n1 k1, .slice a2 n2 k2, .slice a3 ks.length k3] 26)) := (But.refl (fun k => k = g) w).alloc _
      show Calls _ _ #[.pointer (some ⟨g, 0, none⟩), .agg #[.bool false, .bool true, .slice a1 n1 k1, .slice a2 n2 k2, .slice a3 ks.length k3], .int .i64 d] _ _
      go_enter Tryd.func55, Tryd.ntmps55
      go_upto_region 1 with fail
      change Code.wp _ _ _ _ (w.alloc (.cells #[.bool false, .bool true, .slice a1 n1 k1, .slice a2 n2 k2, .slice a3 ks.length k3] 26))
      generalize (w.alloc (.cells #[.bool false, .bool true, .slice a1 n1 k1, .slice a2 n2 k2, .slice a3 ks.length k3] 26)) = v0 at *
      have c0 := G0.cell 0 rfl
      have f0 := G0.frozen 0
      have e1 : IntKind.i64.wrap ((N : Int) + 1) = (N : Int) + 1 := IntWalk.i64_in _ ⟨by omega, by omega⟩
      go_upto_region 2 with fail
      have X1 := X0.far ⟨g, 0, none⟩ (.int .i64 ((N : Int) + 1)) (Ne.symm hgne)
      have G1 := G0.set 0 (.int .i64 ((N : Int) + 1))
      have B1 := B0.setCell (p := ⟨g, 0, none⟩) (.inl rfl) (.int .i64 ((N : Int) + 1))
      change Code.wp _ _ _ _ (v0.setCell ⟨g, 0, none⟩ (.int .i64 ((N : Int) + 1)))
      clear X0 G0 B0 c0 f0 e1 hg
      generalize (v0.setCell ⟨g, 0, none⟩ (.int .i64 ((N : Int) + 1))) = v1 at *
      replace G1 : Box v1 g 89 #[.int .i64 ((N : Int) + 1), .int .i64 S] := G1
      have c0 := G1.cell 0 rfl
      have c1 := G1.cell 1 rfl
      have f1 := G1.frozen 1
      have l0 := X1.cell 0 rfl
      have l1 := X1.cell 1 rfl
      have e2 : IntKind.i64.wrap ((S : Int) + 2) = (S : Int) + 2 := IntWalk.i64_in _ ⟨by omega, by omega⟩
      go_upto_region 7 with fail
      have X2 := X1.far ⟨g, 1, none⟩ (.int .i64 ((S : Int) + 2)) (Ne.symm hgne)
      have G2 := G1.set 1 (.int .i64 ((S : Int) + 2))
      have B2 := B1.setCell (p := ⟨g, 1, none⟩) (.inl rfl) (.int .i64 ((S : Int) + 2))
      change Code.wp _ _ _ _ (v1.setCell ⟨g, 1, none⟩ (.int .i64 ((S : Int) + 2)))
      clear X1 G1 B1 c0 c1 f1 l0 l1 e2
      generalize (v1.setCell ⟨g, 1, none⟩ (.int .i64 ((S : Int) + 2))) = v2 at *
      replace G2 : Box v2 g 89 #[.int .i64 ((N + 1 : Nat) : Int), .int .i64 ((S + 2 : Nat) : Int)] := by rw [show ((N + 1 : Nat) : Int) = (N : Int) + 1 by omega, show ((S + 2 : Nat) : Int) = (S : Int) + 2 by omega]; exact G2
      have ht1 := textL_len hi (by omega)
      have cc := X2.cell 2 rfl
      go_wp2_with fail
      refine (cbytes_any g (N + 1) (S + 2) _ n1 _ hi v2 G2 (by omega) (by omega) HN1.out (HTX.out _ B2)).mono ?_
      rintro e v3 ⟨rfl, G3, b3⟩
      have X3 := b3.box X2 (by omega)
      have B3 := B2.trans b3 (fun k hk => .inl hk)
      clear cc X2 G2 b3
      have cc := X3.cell 3 rfl
      go_wp2_with fail
      refine (cbytes_any g (N + 1) (S + 2 + (textL hi).length) _ n2 _ da v3 G3 (by omega) (by omega) HN2.out (HTX.out _ B3)).mono ?_
      rintro e v4 ⟨rfl, G4, b4⟩
      have X4 := b4.box X3 (by omega)
      have B4 := B3.trans b4 (fun k hk => .inl hk)
      clear cc X3 G3 b4
      have c4 := X4.cell 4 rfl
      have c1 := X4.cell 1 rfl
      have c2 := X4.cell 2 rfl
      by_cases hk0 : ks.length = 0
      case neg =>
        have hk0' : ((ks.length : Int) == 0) = false := beq_eq_false_iff_ne.2 (by omega)
        have HU : Hid ((Sx.mk false true hi da ks).okR d N = false) := Lib.hid (okR_unclean (by rw [clean_def, headOk5 _ _ _ (by omega)]; rfl))
        go_wp2_with fail
        go_ret
        exact ⟨N + 1, S + 2 + (textL hi).length + (textL da).length, by rw [HU.out]; rfl, G4, (fun h => by rw [HU.out] at h; cases h), B4⟩
      have hks : ks = [] := List.eq_nil_of_length_eq_zero hk0
      subst hks
      have HU : Hid ((Sx.mk false true hi da []).okR d N = true) := Lib.hid (okR_atom hmany hd (headOk6 _ _ rfl))
      go_wp2_with fail
      go_ret
      exact ⟨N + 1, S + 2 + (textL hi).length + (textL da).length, by rw [HU.out]; rfl, G4, (fun _ => ⟨by simp [Sx.nodes, Sx.nodesL], by rw [form_def]; simp; try omega⟩), B4⟩
  | true =>
    by_cases hd16 : 16 < d
    case pos =>
      have hd16' : (16 : Int) < d := by omega
      have HU : Hid ((Sx.mk true vh hi da ks).okR d N = false) := Lib.hid (okR_deep hd16)
      have X0 := Box.new w 26 #[.bool true, .bool vh, .slice a1 n1 k1, .slice a2 n2 k2, .slice a3 ks.length k3]
      have G0 := hg.alloc (.cells #[.bool true, .bool vh, .slice a1 n1 k1, .slice a2 n2 k2, .slice a3 ks.length k3] 26)
      have B0 : But (fun k => k = g) w (w.alloc (.cells #[.bool true, .bool vh, .slice a1 n1 k1, .slice a2 n2 k2, .slice a3 ks.length k3] 26)) := (But.refl (fun k => k = g) w).alloc _
      show Calls _ _ #[.pointer (some ⟨g, 0, none⟩), .agg #[.bool true, .bool vh, .slice a1 n1 k1, .slice a2 n2 k2, .slice a3 ks.length k3], .int .i64 d] _ _
      go_enter Tryd.func55, Tryd.ntmps55
      go_upto_region 1 with fail
      change Code.wp _ _ _ _ (w.alloc (.cells #[.bool true, .bool vh, .slice a1 n1 k1, .slice a2 n2 k2, .slice a3 ks.length k3] 26))
      generalize (w.alloc (.cells #[.bool true, .bool vh, .slice a1 n1 k1, .slice a2 n2 k2, .slice a3 ks.length k3] 26)) = v0 at *
      have c0 := G0.cell 0 rfl
      have f0 := G0.frozen 0
      have e1 : IntKind.i64.wrap ((N : Int) + 1) = (N : Int) + 1 := IntWalk.i64_in _ ⟨by omega, by omega⟩
      go_upto_region 2 with fail
      have X1 := X0.far ⟨g, 0, none⟩ (.int .i64 ((N : Int) + 1)) (Ne.symm hgne)
      have G1 := G0.set 0 (.int .i64 ((N : Int) + 1))
      have B1 := B0.setCell (p := ⟨g, 0, none⟩) (.inl rfl) (.int .i64 ((N : Int) + 1))
      change Code.wp _ _ _ _ (v0.setCell ⟨g, 0, none⟩ (.int .i64 ((N : Int) + 1)))
      clear X0 G0 B0 c0 f0 e1 hg
      generalize (v0.setCell ⟨g, 0, none⟩ (.int .i64 ((N : Int) + 1))) = v1 at *
      replace G1 : Box v1 g 89 #[.int .i64 ((N : Int) + 1), .int .i64 S] := G1
      have c0 := G1.cell 0 rfl
      have l0 := X1.cell 0 rfl
      have l1 := X1.cell 1 rfl
      have l2 := X1.cell 2 rfl
      have l3 := X1.cell 3 rfl
      go_wp2_with fail
      go_ret
      exact ⟨N + 1, S, by rw [HU.out]; rfl, by have := G1; rwa [show ((N + 1 : Nat) : Int) = (N : Int) + 1 by omega], (fun h => by rw [HU.out] at h; cases h), B1⟩
    have hd16' : ¬ (16 : Int) < d := by omega
    cases vh with
    | true =>
      have HU : Hid ((Sx.mk true true hi da ks).okR d N = false) := Lib.hid (okR_unclean (by rw [clean_def, headOk1]; rfl))
      have X0 := Box.new w 26 #[.bool true, .bool true, .slice a1 n1 k1, .slice a2 n2 k2, .slice a3 ks.length k3]
      have G0 := hg.alloc (.cells #[.bool true, .bool true, .slice a1 n1 k1, .slice a2 n2 k2, .slice a3 ks.length k3] 26)
      have B0 : But (fun k => k = g) w (w.alloc (.cells #[.bool true, .bool true, .slice a1 n1 k1, .slice a2 n2 k2, .slice a3 ks.length k3] 26)) := (But.refl (fun k => k = g) w).alloc _
      show Calls _ _ #[.pointer (some ⟨g, 0, none⟩), .agg #[.bool true, .bool true, .slice a1 n1 k1, .slice a2 n2 k2, .slice a3 ks.length k3], .int .i64 d] _ _
      go_enter Tryd.func55, Tryd.ntmps55
      go_upto_region 1 with fail
      change Code.wp _ _ _ _ (w.alloc (.cells #[.bool true, .bool true, .slice a1 n1 k1, .slice a2 n2 k2, .slice a3 ks.length k3] 26))
      generalize (w.alloc (.cells #[.bool true, .bool true, .slice a1 n1 k1, .slice a2 n2 k2, .slice a3 ks.length k3] 26)) = v0 at *
      have c0 := G0.cell 0 rfl
      have f0 := G0.frozen 0
      have e1 : IntKind.i64.wrap ((N : Int) + 1) = (N : Int) + 1 := IntWalk.i64_in _ ⟨by omega, by omega⟩
      go_upto_region 2 with fail
      have X1 := X0.far ⟨g, 0, none⟩ (.int .i64 ((N : Int) + 1)) (Ne.symm hgne)
      have G1 := G0.set 0 (.int .i64 ((N : Int) + 1))
      have B1 := B0.setCell (p := ⟨g, 0, none⟩) (.inl rfl) (.int .i64 ((N : Int) + 1))
      change Code.wp _ _ _ _ (v0.setCell ⟨g, 0, none⟩ (.int .i64 ((N : Int) + 1)))
      clear X0 G0 B0 c0 f0 e1 hg
      generalize (v0.setCell ⟨g, 0, none⟩ (.int .i64 ((N : Int) + 1))) = v1 at *
      replace G1 : Box v1 g 89 #[.int .i64 ((N : Int) + 1), .int .i64 S] := G1
      have c0 := G1.cell 0 rfl
      have l0 := X1.cell 0 rfl
      have l1 := X1.cell 1 rfl
      have l2 := X1.cell 2 rfl
      have l3 := X1.cell 3 rfl
      go_wp2_with fail
      go_ret
      exact ⟨N + 1, S, by rw [HU.out]; rfl, by have := G1; rwa [show ((N + 1 : Nat) : Int) = (N : Int) + 1 by omega], (fun h => by rw [HU.out] at h; cases h), B1⟩
    | false =>
    by_cases h12 : 0 < n1 + n2
    case pos =>
      have h12' : 0 < (n1 : Int) + n2 := by omega
      have h12e : IntKind.i64.wrap ((n1 : Int) + n2) = (n1 : Int) + n2 := IntWalk.i64_in _ ⟨by omega, by omega⟩
      have HU : Hid ((Sx.mk true false hi da ks).okR d N = false) := Lib.hid (okR_unclean (by
        rw [clean_def]
        have e1 := HN1.out
        have e2 := HN2.out
        rcases Nat.lt_or_ge 0 hi.length with h | h
        · rw [headOk2 _ _ h]; rfl
        · rw [headOk3 _ _ (by omega)]; rfl))
      have X0 := Box.new w 26 #[.bool true, .bool false, .slice a1 n1 k1, .slice a2 n2 k2, .slice a3 ks.length k3]
      have G0 := hg.alloc (.cells #[.bool true, .bool false, .slice a1 n1 k1, .slice a2 n2 k2, .slice a3 ks.length k3] 26)
      have B0 : But (fun k => k = g) w (w.alloc (.cells #[.bool true, .bool false, .slice a1 n1 k1, .slice a2 n2 k2, .slice a3 ks.length k3] 26)) := (But.refl (fun k => k = g) w).alloc _
      show Calls _ _ #[.pointer (some ⟨g, 0, none⟩), .agg #[.bool true, .bool false, .slice a1 n1 k1, .slice a2 n2 k2, .slice a3 ks.length k3], .int .i64 d] _ _
      go_enter Tryd.func55, Tryd.ntmps55
      go_upto_region 1 with fail
      change Code.wp _ _ _ _ (w.alloc (.cells #[.bool true, .bool false, .slice a1 n1 k1, .slice a2 n2 k2, .slice a3 ks.length k3] 26))
      generalize (w.alloc (.cells #[.bool true, .bool false, .slice a1 n1 k1, .slice a2 n2 k2, .slice a3 ks.length k3] 26)) = v0 at *
      have c0 := G0.cell 0 rfl
      have f0 := G0.frozen 0
      have e1 : IntKind.i64.wrap ((N : Int) + 1) = (N : Int) + 1 := IntWalk.i64_in _ ⟨by omega, by omega⟩
      go_upto_region 2 with fail
      have X1 := X0.far ⟨g, 0, none⟩ (.int .i64 ((N : Int) + 1)) (Ne.symm hgne)
      have G1 := G0.set 0 (.int .i64 ((N : Int) + 1))
      have B1 := B0.setCell (p := ⟨g, 0, none⟩) (.inl rfl) (.int .i64 ((N : Int) + 1))
      change Code.wp _ _ _ _ (v0.setCell ⟨g, 0, none⟩ (.int .i64 ((N : Int) + 1)))
      clear X0 G0 B0 c0 f0 e1 hg
      generalize (v0.setCell ⟨g, 0, none⟩ (.int .i64 ((N : Int) + 1))) = v1 at *
      replace G1 : Box v1 g 89 #[.int .i64 ((N : Int) + 1), .int .i64 S] := G1
      have c0 := G1.cell 0 rfl
      have l0 := X1.cell 0 rfl
      have l1 := X1.cell 1 rfl
      have l2 := X1.cell 2 rfl
      have l3 := X1.cell 3 rfl
      go_wp2_with fail
      go_ret
      exact ⟨N + 1, S, by rw [HU.out]; rfl, by have := G1; rwa [show ((N + 1 : Nat) : Int) = (N : Int) + 1 by omega], (fun h => by rw [HU.out] at h; cases h), B1⟩
    obtain rfl : n1 = 0 := by omega
    obtain rfl : n2 = 0 := by omega
    have h12' : ¬ 0 < ((0 : Nat) : Int) + ((0 : Nat) : Int) := by omega
    have HH : Hid (headOk true false hi.length da.length ks.length = true) := Lib.hid (headOk4 _ (by have := HN1.out; omega) (by have := HN2.out; omega))
    have X0 := Box.new w 26 #[.bool true, .bool false, .slice a1 0 k1, .slice a2 0 k2, .slice a3 ks.length k3]
    have G0 := hg.alloc (.cells #[.bool true, .bool false, .slice a1 0 k1, .slice a2 0 k2, .slice a3 ks.length k3] 26)
    have B0 : But (fun k => k = g) w (w.alloc (.cells #[.bool true, .bool false, .slice a1 0 k1, .slice a2 0 k2, .slice a3 ks.length k3] 26)) := (But.refl (fun k => k = g) w).alloc _
    show Calls _ _ #[.pointer (some ⟨g, 0, none⟩), .agg #[.bool true, .bool false, .slice a1 0 k1, .slice a2 0 k2, .slice a3 ks.length k3], .int .i64 d] _ _
    go_enter Tryd.func55, Tryd.ntmps55
    go_upto_region 1 with fail
    change Code.wp _ _ _ _ (w.alloc (.cells #[.bool true, .bool false, .slice a1 0 k1, .slice a2 0 k2, .slice a3 ks.length k3] 26))
    generalize (w.alloc (.cells #[.bool true, .bool false, .slice a1 0 k1, .slice a2 0 k2, .slice a3 ks.length k3] 26)) = v0 at *
    have c0 := G0.cell 0 rfl
    have f0 := G0.frozen 0
    have e1 : IntKind.i64.wrap ((N : Int) + 1) = (N : Int) + 1 := IntWalk.i64_in _ ⟨by omega, by omega⟩
    go_upto_region 2 with fail
    have X1 := X0.far ⟨g, 0, none⟩ (.int .i64 ((N : Int) + 1)) (Ne.symm hgne)
    have G1 := G0.set 0 (.int .i64 ((N : Int) + 1))
    have B1 := B0.setCell (p := ⟨g, 0, none⟩) (.inl rfl) (.int .i64 ((N : Int) + 1))
    change Code.wp _ _ _ _ (v0.setCell ⟨g, 0, none⟩ (.int .i64 ((N : Int) + 1)))
    clear X0 G0 B0 c0 f0 e1 hg
    generalize (v0.setCell ⟨g, 0, none⟩ (.int .i64 ((N : Int) + 1))) = v1 at *
    replace G1 : Box v1 g 89 #[.int .i64 ((N : Int) + 1), .int .i64 S] := G1
    have c0 := G1.cell 0 rfl
    have c1 := G1.cell 1 rfl
    have f1 := G1.frozen 1
    have l0 := X1.cell 0 rfl
    have l1 := X1.cell 1 rfl
    have l2 := X1.cell 2 rfl
    have l3 := X1.cell 3 rfl
    have e2 : IntKind.i64.wrap ((S : Int) + 2) = (S : Int) + 2 := IntWalk.i64_in _ ⟨by omega, by omega⟩
    go_upto_region 13 with fail
    have X2 := X1.far ⟨g, 1, none⟩ (.int .i64 ((S : Int) + 2)) (Ne.symm hgne)
    have G2 := G1.set 1 (.int .i64 ((S : Int) + 2))
    have B2 := B1.setCell (p := ⟨g, 1, none⟩) (.inl rfl) (.int .i64 ((S : Int) + 2))
    change Code.wp _ _ _ _ (v1.setCell ⟨g, 1, none⟩ (.int .i64 ((S : Int) + 2)))
    clear X1 G1 B1 c0 c1 f1 l0 l1 l2 l3 e2
    generalize (v1.setCell ⟨g, 1, none⟩ (.int .i64 ((S : Int) + 2))) = v2 at *
    replace G2 : Box v2 g 89 #[.int .i64 ((N + 1 : Nat) : Int), .int .i64 ((S + 2 : Nat) : Int)] := by rw [show ((N + 1 : Nat) : Int) = (N : Int) + 1 by omega, show ((S + 2 : Nat) : Int) = (S : Int) + 2 by omega]; exact G2
    have l4 := X2.cell 4 rfl
    go_wp2_with fail
    go_loopw [8, 81] (fun _ k wr => ∃ n : Nat, n ≤ ks.length ∧ k = .int .i64 n ∧ Hid (Sx.cleanL (ks.take n) = true ∧ Sx.deepL (ks.take n) + d ≤ 16) ∧ N + 1 + Sx.nodesL (ks.take n) ≤ 512 ∧ S + 2 + (Sx.formL (ks.take n)).length ≤ 20000 * (N + 1 + Sx.nodesL (ks.take n)) ∧
      Box wr g 89 #[.int .i64 ((N + 1 + Sx.nodesL (ks.take n) : Nat) : Int), .int .i64 ((S + 2 + (Sx.formL (ks.take n)).length : Nat) : Int)] ∧ Box wr w.heap.size 26 #[.bool true, .bool false, .slice a1 0 k1, .slice a2 0 k2, .slice a3 ks.length k3] ∧ But (fun k => k = g) w wr) (fun _ k _ => ks.length - (intOf k).toNat)
    case atStart => exact ⟨0, Nat.zero_le _, rfl, Lib.hid ⟨rfl, by simp [Sx.deepL]; omega⟩, by simp [Sx.nodesL]; omega, by simp [Sx.nodesL, Sx.formL]; omega, by simpa [Sx.nodesL, Sx.formL] using G2, X2, B2⟩
    case round =>
      obtain ⟨n, hnl, rfl, HC, hN2, hS2, G, X, B⟩ := hrel
      clear X2 G2 B2 l4
      have l4 := X.cell 4 rfl
      by_cases hlt : n < ks.length
      · obtain ⟨b, o, rfl, hld⟩ := (HR.out.but B HRR.out.inb.2.2 (fun k h => h)).range hlt
        have HL := Lib.hid hld
        have hrd := (HK.out n hlt).but B (fun k h => h)
        have hks := HWK.out ks[n] (List.getElem_mem hlt)
        have hfk := form_wide _ _ hks
        have HRd := Lib.hid hrd
        have HKS := Lib.hid hks
        have htab := Lib.hid (HTX.out.but B)
        have ewr : IntKind.i64.wrap ((d : Int) + 1) = (d : Int) + 1 := IntWalk.i64_in _ ⟨by omega, by omega⟩
        obtain ⟨ck, hck⟩ : ∃ ck, ck = ks[n].okR (d + 1) (N + 1 + Sx.nodesL (ks.take n)) := ⟨_, rfl⟩
        have HCK := Lib.hid hck
        have IH2 : Hid (∀ w, Box w g 89 #[.int .i64 ((N + 1 + Sx.nodesL (ks.take n) : Nat) : Int), .int .i64 ((S + 2 + (Sx.formL (ks.take n)).length : Nat) : Int)] → RdI (fun k => k ≠ g) w (K n) ks[n] → TabX (fun k => k = g) w →
            Calls Tryd.prog 55 #[.pointer (some ⟨g, 0, none⟩), (K n).val, .int .i64 ((d : Int) + 1)] w (RightP g ck (N + 1 + Sx.nodesL (ks.take n) + ks[n].nodes) (S + 2 + (Sx.formL (ks.take n)).length + ks[n].form.length) w)) :=
          Lib.hid fun w h1 h2 h3 => by
            have := IH.out _ (List.getElem_mem hlt) (K n) g (N + 1 + Sx.nodesL (ks.take n)) (S + 2 + (Sx.formL (ks.take n)).length) (d + 1) (m + 1) w h1 h2 HKS.out h3 hN2 hS2 (by omega)
            rw [← hck] at this
            exact this
        clear hrd hld hks hck
        go_upto_region 16 with first | (refine wpList_load_sv rfl _ rfl b _ rfl _ HL.out ?_) | (refine wpList_store_box (cells := (K n).cells) rfl 26 _ _ rfl (Box.new _ _ _) (by rfl) (by rfl) rfl (by kernel_rfl) (SV.one _) ?_; intro u1 Y1 st1)
        have hbu : Below wr.heap.size wr u1 := st1.below wr.heap.size wr (Nat.le_refl _) ((Below.refl _ _).alloc (Nat.le_refl _) _)
        have hwz := B.size
        have hgz := G.lt
        have B' : But (fun k => k = g) w u1 := (B.alloc _).trans (But.ofStored st1 (st1.below 0 _ (Nat.zero_le _) (Below.refl 0 _))) (fun k hk => .inr (by omega))
        have G' := G.after hbu
        have X' := X.after hbu
        have HRd' := Lib.hid (HRd.out.after hbu)
        have htab' := Lib.hid (htab.out.but (But.ofBelow hbu))
        have HY := Lib.hid Y1
        have hzu : wr.heap.size < u1.heap.size := Y1.lt
        clear st1 hbu B G X HRd htab HL Y1 l4
        go_wp2_with (refine wpList_load_box rfl 26 _ rfl HY.out (by rfl) Tryd.underlying26 rfl (by kernel_rfl) ?_)
        refine (IH2.out _ G' HRd'.out htab'.out).mono ?_
        rintro e v3 ⟨N3, S3, rfl, G3, hok, b3⟩
        have X3 := b3.box X' (by omega)
        have B3 := B'.trans b3 (fun k hk => .inl hk)
        have HOK := Lib.hid hok
        clear hok b3 G' X' B'
        cases ck with
        | false =>
          have HU : Hid ((Sx.mk true false hi da ks).okR d N = false) := Lib.hid (okR_kid n hlt HCK.out.symm)
          go_wp2_with fail
          go_ret
          exact ⟨N3, S3, by rw [HU.out]; rfl, G3, (fun h => by rw [HU.out] at h; cases h), B3⟩
        | true =>
          have hpp := okR_parts HCK.out.symm
          have HPP := Lib.hid hpp
          have hp2 := hpp.2.1
          have HSN := Lib.hid (Sx.nodesL_snoc ks n hlt)
          have HSF := Lib.hid (Sx.formL_snoc ks n hlt)
          have hfk' := hfk
          clear hpp
          go_wp2_with fail
          go_roundw
          case rel =>
            obtain ⟨rfl, rfl⟩ := HOK.out (by trivial)
            refine ⟨n + 1, by omega, by go_num, Lib.hid ⟨by rw [Sx.cleanL_snoc ks n hlt, HC.out.1, HPP.out.1]; rfl, by rw [Sx.deepL_snoc ks n hlt]; have := HC.out.2; have := HPP.out.2.2; omega⟩, by rw [HSN.out]; omega, by rw [HSN.out, HSF.out, List.length_append]; omega, ?_, X3, B3⟩
            rw [HSN.out, HSF.out, List.length_append, ← Nat.add_assoc, ← Nat.add_assoc]
            exact G3
          case measure => simp [intOf]; omega
      · have hnn : n = ks.length := by omega
        subst hnn
        have hC := HC.out
        rw [List.take_length] at hC hN2 G
        have HU : Hid ((Sx.mk true false hi da ks).okR d N = true) := Lib.hid (okR_list (by omega) hmany HH.out ⟨hC.1, hC.2, hN2⟩)
        have G' := Lib.hid G
        clear hC G HC
        go_wp2_with fail
        go_ret
        refine ⟨_, _, by rw [HU.out]; rfl, G'.out, fun _ => ⟨by simp only [Sx.nodes]; omega, ?_⟩, B⟩
        rw [form_def, if_pos rfl]
        simp only [List.length_cons, List.length_append, List.length_nil]
        omega

set_option maxHeartbeats 2000000 in
set_option maxRecDepth 100000 in
theorem may_any (s : Sx) (v : SV) (w : World) (hr : Rd w v s) (m : Nat) (hw : s.wide m = false) (ht : Tab w) : Calls Tryd.prog 30 #[v.val] w fun e w' => e = .returned (.bool s.may) ∧ Below w.heap.size w w' := by
  obtain ⟨vl, vh, a1, n1, k1, a2, n2, k2, a3, n3, k3⟩ := v
  have B0 : Below w.heap.size w ((w.alloc (.cells #[.bool vl, .bool vh, .slice a1 n1 k1, .slice a2 n2 k2, .slice a3 n3 k3] 26)).alloc (.cells #[.int .i64 0, .int .i64 0] 89)) := ((Below.refl _ _).alloc (Nat.le_refl _) _).alloc (by simp) _
  have X0 : Box ((w.alloc (.cells #[.bool vl, .bool vh, .slice a1 n1 k1, .slice a2 n2 k2, .slice a3 n3 k3] 26)).alloc (.cells #[.int .i64 0, .int .i64 0] 89)) w.heap.size 26 #[.bool vl, .bool vh, .slice a1 n1 k1, .slice a2 n2 k2, .slice a3 n3 k3] := (Box.new _ _ _).alloc _
  have G0 : Box ((w.alloc (.cells #[.bool vl, .bool vh, .slice a1 n1 k1, .slice a2 n2 k2, .slice a3 n3 k3] 26)).alloc (.cells #[.int .i64 0, .int .i64 0] 89)) (w.heap.size + 1) 89 #[.int .i64 0, .int .i64 0] := by
    have := Box.new (w.alloc (.cells #[.bool vl, .bool vh, .slice a1 n1 k1, .slice a2 n2 k2, .slice a3 n3 k3] 26)) 89 #[.int .i64 0, .int .i64 0]
    simpa using this
  have hrd := (hr.there.mono (ok' := fun k => k ≠ w.heap.size + 1) (fun b hb => by have := hb.2; omega)).after B0
  have htx : TabX (fun k => k = w.heap.size + 1) ((w.alloc (.cells #[.bool vl, .bool vh, .slice a1 n1 k1, .slice a2 n2 k2, .slice a3 n3 k3] 26)).alloc (.cells #[.int .i64 0, .int .i64 0] 89)) := TabX.new ht B0 (fun k hk => by omega)
  obtain ⟨ok, hok⟩ : ∃ ok, ok = s.okR 1 0 := ⟨_, rfl⟩
  have HM : Hid (s.may = (ok && decide (s.form.length ≤ 4096))) := Lib.hid (by rw [hok]; exact may_okR s)
  have CALL := Lib.hid (right_any s ⟨vl, vh, a1, n1, k1, a2, n2, k2, a3, n3, k3⟩ (w.heap.size + 1) 0 0 1 m ((w.alloc (.cells #[.bool vl, .bool vh, .slice a1 n1 k1, .slice a2 n2 k2, .slice a3 n3 k3] 26)).alloc (.cells #[.int .i64 0, .int .i64 0] 89)) G0 hrd hw htx (by omega) (by omega) (by omega))
  rw [← hok, Nat.zero_add, Nat.zero_add] at CALL
  have HX := Lib.hid X0
  clear hrd htx hok hr ht hw X0 G0
  show Calls _ _ #[.agg #[.bool vl, .bool vh, .slice a1 n1 k1, .slice a2 n2 k2, .slice a3 n3 k3]] _ _
  go_enter Tryd.func30, Tryd.ntmps30
  go_upto_region 2 with fail
  change Code.wp _ _ _ _ ((w.alloc (.cells #[.bool vl, .bool vh, .slice a1 n1 k1, .slice a2 n2 k2, .slice a3 n3 k3] 26)).alloc (.cells #[.int .i64 0, .int .i64 0] 89))
  have hz : w.heap.size ≤ ((w.alloc (.cells #[.bool vl, .bool vh, .slice a1 n1 k1, .slice a2 n2 k2, .slice a3 n3 k3] 26)).alloc (.cells #[.int .i64 0, .int .i64 0] 89)).heap.size := by simp; omega
  generalize ((w.alloc (.cells #[.bool vl, .bool vh, .slice a1 n1 k1, .slice a2 n2 k2, .slice a3 n3 k3] 26)).alloc (.cells #[.int .i64 0, .int .i64 0] 89)) = v0 at *
  go_wp2_with (refine wpList_load_box rfl 26 _ rfl HX.out (by rfl) Tryd.underlying26 rfl (by kernel_rfl) ?_)
  refine CALL.out.mono ?_
  rintro e v1 ⟨N2, S2, rfl, G1, hN, b1⟩
  have HB := But.after B0 b1 hz (fun k hk => by omega)
  have HOK := Lib.hid hN
  have g1 := G1.cell 1 rfl
  clear hN b1 CALL
  cases ok with
  | false =>
    go_wp2_with fail
    go_ret
    exact ⟨by rw [HM.out]; rfl, HB⟩
  | true =>
    obtain ⟨rfl, rfl⟩ := HOK.out (by trivial)
    go_wp2_with fail
    go_ret
    exact ⟨by
      rw [HM.out]
      show Ending.returned (.bool (decide ((s.form.length : Int) ≤ 4096))) = _
      rw [show decide ((s.form.length : Int) ≤ 4096) = decide (s.form.length ≤ 4096) from decide_eq_decide.2 (by omega)]
      rfl, HB⟩

end Go.Proofs.YtkbblhioncecmaaDoor

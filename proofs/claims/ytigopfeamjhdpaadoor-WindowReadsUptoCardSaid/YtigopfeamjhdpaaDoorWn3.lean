/- Windows that came in, opened; WindowMeets. -/
import Derived.Test.YtigopfeamjhdpaaDoorWn2
namespace Go.Proofs.YtigopfeamjhdpaaDoor
open Go.RowKit Go.ChangeShapes Go.WideShapes Go.ChangeAt
set_option linter.unusedSimpArgs false
set_option linter.unusedVariables false

set_option maxRecDepth 100000 in
theorem cells_win : Tryd.prog.cellsOf 4 = 1 ∧ Tryd.prog.cellsOf 2 = 1 ∧ Tryd.prog.cellsOf 23 = 4 := ⟨by kernel_rfl, by kernel_rfl, by kernel_rfl⟩
section
variable {H : Type} {enc : TypeId × Value → H} {W : World} {held : Bool}
set_option maxRecDepth 100000 in
theorem open_win {r : Reach} {b0 : Nat} {v : Value} {d : DataW H} {p : List MemPlace} (hv : Value.okWide Tryd.prog W r b0 23 v) (h : DataW.Trod enc Tryd.prog W 0 (fun _ => true) held 23 v d p) :
    ∃ (p : Bool) (f : Int) (q : Bool) (t : Int), v = .agg #[.bool p, .int .i64 f, .bool q, .int .i64 t] ∧ (Lit.int .i64 f).wf = true ∧ (Lit.int .i64 t).wf = true := by
  obtain ⟨m1, k4, k5⟩ := cells_win
  obtain ⟨cs, rfl, hsz⟩ := okWide_struct Tryd.underlying23 hv
  obtain ⟨fuel, hf⟩ := h
  obtain ⟨l⟩ := cs
  match l, hsz.trans k5 with
  | [c1, c2, c3, c4], _ =>
    obtain ⟨xs, m, _, _, _, hl, hg⟩ := DataW.trod_struct Tryd.underlying23 hf
    match xs, hl with
    | [y0, y1, y2, y3], _ =>
      have h0 : DataW.trod enc Tryd.prog W 0 (fun _ => true) held m 4 (([c1, c2, c3, c4].drop 0).take (Tryd.prog.cellsOf 4)) = some y0 := hg 0 _ rfl
      have h1 : DataW.trod enc Tryd.prog W 0 (fun _ => true) held m 2 (([c1, c2, c3, c4].drop 1).take (Tryd.prog.cellsOf 2)) = some y1 := hg 1 _ rfl
      have h2 : DataW.trod enc Tryd.prog W 0 (fun _ => true) held m 4 (([c1, c2, c3, c4].drop 2).take (Tryd.prog.cellsOf 4)) = some y2 := hg 2 _ rfl
      have h3 : DataW.trod enc Tryd.prog W 0 (fun _ => true) held m 2 (([c1, c2, c3, c4].drop 3).take (Tryd.prog.cellsOf 2)) = some y3 := hg 3 _ rfl
      rw [m1] at h0 h2
      rw [k4] at h1 h3
      obtain ⟨p, e0, _⟩ := DataW.trod_bool Tryd.underlying4 h0
      obtain ⟨q, e2, _⟩ := DataW.trod_bool Tryd.underlying4 h2
      obtain ⟨f, e1, _, hf_⟩ := DataW.trod_int Tryd.underlying2 h1
      obtain ⟨t, e3, _, ht⟩ := DataW.trod_int Tryd.underlying2 h3
      obtain rfl : c1 = .bool p := by simpa using e0
      obtain rfl : c2 = .int .i64 f := by simpa [Value.cells] using e1
      obtain rfl : c3 = .bool q := by simpa using e2
      obtain rfl : c4 = .int .i64 t := by simpa [Value.cells] using e3
      exact ⟨p, f, q, t, rfl, hf_, ht⟩
end

def W4.inn (x : W4) (t : Int) : Bool := winIn x.p x.f x.q x.t t
theorem meet_inn (a b : W4) (t : Int) : (a.meet b).inn t = (a.inn t && b.inn t) := by
  obtain ⟨p, f, q, u⟩ := a
  obtain ⟨p2, f2, q2, u2⟩ := b
  unfold W4.inn W4.meet winIn
  rw [Bool.eq_iff_iff]
  cases p <;> cases p2 <;> cases q <;> cases q2 <;> simp <;> omega
theorem empty_inn (a : W4) (t : Int) (h : a.empty = true) : a.inn t = false := by
  obtain ⟨p, f, q, u⟩ := a
  unfold W4.empty at h
  simp at h
  obtain ⟨rfl, rfl, h⟩ := h
  unfold W4.inn winIn
  simp
  omega

set_option maxHeartbeats 32000000 in
set_option maxRecDepth 100000 in
theorem WindowMeets_walk (p0 : Bool) (f0 : Int) (q0 : Bool) (t0 : Int) (p1 : Bool) (f1 : Int) (q1 : Bool) (t1 : Int) (j : Int) (w : World) (ht : Tab w) (hj : (Lit.int .i64 j).wf = true) : Calls Tryd.prog 6 #[.agg #[.bool p0, .int .i64 f0, .bool q0, .int .i64 t0], .agg #[.bool p1, .int .i64 f1, .bool q1, .int .i64 t1], .int .i64 j] w fun e w' => e = .returned (.bool true) ∧ Below w.heap.size w w' := by
  have HT := Lib.hid ht
  have CK := Lib.hid (fun w' => winMeet_any p0 f0 q0 t0 p1 f1 q1 t1 w')
  obtain ⟨⟨mp, mf, mq, mt⟩, hm⟩ : ∃ m, W4.meet ⟨p0, f0, q0, t0⟩ ⟨p1, f1, q1, t1⟩ = m := ⟨_, rfl⟩
  have hin := meet_inn ⟨p0, f0, q0, t0⟩ ⟨p1, f1, q1, t1⟩ j
  have hem := empty_inn (W4.meet ⟨p0, f0, q0, t0⟩ ⟨p1, f1, q1, t1⟩) j
  rw [hm] at hin hem
  simp only [hm] at CK
  replace CK : Hid (∀ w', Calls Tryd.prog 16 #[.agg #[.bool p0, .int .i64 f0, .bool q0, .int .i64 t0], .agg #[.bool p1, .int .i64 f1, .bool q1, .int .i64 t1]] w' fun e w'' => e = .returned (.agg #[.bool mp, .int .i64 mf, .bool mq, .int .i64 mt]) ∧ Below w'.heap.size w' w'') := CK
  have CA := Lib.hid (fun w' => winIn_any p0 f0 q0 t0 j w')
  have CB := Lib.hid (fun w' => winIn_any mp mf mq mt j w')
  have CE := Lib.hid (fun w' => winEmpty_any mp mf mq mt w')
  have CF := Lib.hid (fun w' => winEmpty_any p0 f0 q0 t0 w')
  have RA := Lib.hid (fun w' => refIn_any p0 f0 q0 t0 j w')
  have RB := Lib.hid (fun w' => refIn_any p1 f1 q1 t1 j w')
  replace hin : winIn mp mf mq mt j = (winIn p0 f0 q0 t0 j && winIn p1 f1 q1 t1 j) := hin
  replace hem : W4.empty ⟨mp, mf, mq, mt⟩ = true → winIn mp mf mq mt j = false := hem
  have hef : W4.empty ⟨p0, f0, q0, t0⟩ = (p0 && (q0 && decide (t0 < f0))) := rfl
  clear hm
  generalize winIn p0 f0 q0 t0 j = ia at *
  generalize winIn p1 f1 q1 t1 j = ib at *
  generalize winIn mp mf mq mt j = im at *
  generalize W4.empty ⟨mp, mf, mq, mt⟩ = em at *
  generalize W4.empty ⟨p0, f0, q0, t0⟩ = ea at *
  have HIN := Lib.hid hin
  have HEM := Lib.hid hem
  have HEF := Lib.hid hef
  clear hin hem hef ht
  have B : Below w.heap.size w ((w.alloc (.cells #[.bool p0, .int .i64 f0, .bool q0, .int .i64 t0] 23)).alloc (.cells #[.bool p1, .int .i64 f1, .bool q1, .int .i64 t1] 23)) := ((Below.refl _ _).alloc (Nat.le_refl _) _).alloc (by simp) _
  have X : Hid (Box ((w.alloc (.cells #[.bool p0, .int .i64 f0, .bool q0, .int .i64 t0] 23)).alloc (.cells #[.bool p1, .int .i64 f1, .bool q1, .int .i64 t1] 23)) w.heap.size 23 #[.bool p0, .int .i64 f0, .bool q0, .int .i64 t0]) := Lib.hid ((Box.new _ _ _).alloc _)
  have Y : Hid (Box ((w.alloc (.cells #[.bool p0, .int .i64 f0, .bool q0, .int .i64 t0] 23)).alloc (.cells #[.bool p1, .int .i64 f1, .bool q1, .int .i64 t1] 23)) (w.heap.size + 1) 23 #[.bool p1, .int .i64 f1, .bool q1, .int .i64 t1]) := Lib.hid (by
    have := Box.new (w.alloc (.cells #[.bool p0, .int .i64 f0, .bool q0, .int .i64 t0] 23)) 23 #[.bool p1, .int .i64 f1, .bool q1, .int .i64 t1]
    simpa using this)
  go_enter Tryd.func6, Tryd.ntmps6
  go_upto_region 1 with fail
  change Code.wp _ _ _ _ ((w.alloc (.cells #[.bool p0, .int .i64 f0, .bool q0, .int .i64 t0] 23)).alloc (.cells #[.bool p1, .int .i64 f1, .bool q1, .int .i64 t1] 23))
  generalize ((w.alloc (.cells #[.bool p0, .int .i64 f0, .bool q0, .int .i64 t0] 23)).alloc (.cells #[.bool p1, .int .i64 f1, .bool q1, .int .i64 t1] 23)) = x0 at *
  go_wp2_with first | (refine wpList_load_box rfl 23 _ rfl X.out (by rfl) Tryd.underlying23 rfl (by kernel_rfl) ?_) | (refine wpList_load_box rfl 23 _ rfl Y.out (by rfl) Tryd.underlying23 rfl (by kernel_rfl) ?_)
  refine (CK.out x0).mono ?_
  rintro e x1 ⟨rfl, bx1⟩
  replace X := Lib.hid (X.out.after bx1)
  replace Y := Lib.hid (Y.out.after bx1)
  replace B := B.trans (bx1.mono B.size)
  clear bx1
  go_upto_region 2 with (refine wpList_store_box (cells := #[.bool mp, .int .i64 mf, .bool mq, .int .i64 mt]) rfl 23 _ _ rfl (Box.new _ _ _) (by rfl) (by rfl) rfl (by kernel_rfl) (by simp [Value.oneCell']) ?_; intro u9 X9 st9)
  have bs2 : Below x1.heap.size x1 u9 := st9.below x1.heap.size x1 (Nat.le_refl _) ((Below.refl _ _).alloc (Nat.le_refl _) _)
  have M := Lib.hid X9
  replace X := Lib.hid (X.out.after bs2)
  replace Y := Lib.hid (Y.out.after bs2)
  replace B := B.trans (bs2.mono B.size)
  clear bs2 st9 X9
  generalize u9 = x2 at *
  generalize x1.heap.size = y1 at *
  cases ia
  case false =>
    obtain rfl : im = false := by rw [HIN.out]; rfl
    refine wp_region_made x2.heap.size x2 rfl (by kernel_rfl) (Below.refl _ _) ?_
    refine wpQ_load_box rfl 23 _ rfl X.out (by rfl) X.out.lt Tryd.underlying23 rfl (by kernel_rfl) ?_
    simp only [Act.put, List.setIfInBounds_toArray, List.set_cons_zero, List.set_cons_succ]
    refine wpQ_run rfl (.int .i64 j) (fun w' hw => by simp [go_sem]) ?_
    simp only [Act.put, List.setIfInBounds_toArray, List.set_cons_zero, List.set_cons_succ]
    refine wpQ_callB rfl 17 #[.agg #[.bool p0, .int .i64 f0, .bool q0, .int .i64 t0], .int .i64 j] (fun w' => by simp [go_sem]) (.bool false) (Nat.le_refl _) (fun w' hw => CA.out w') ?_
    simp only [Act.put, List.setIfInBounds_toArray, List.set_cons_zero, List.set_cons_succ]
    refine wpQ_load_box rfl 23 _ rfl X.out (by rfl) X.out.lt Tryd.underlying23 rfl (by kernel_rfl) ?_
    simp only [Act.put, List.setIfInBounds_toArray, List.set_cons_zero, List.set_cons_succ]
    refine wpQ_run rfl (.int .i64 j) (fun w' hw => by simp [go_sem]) ?_
    simp only [Act.put, List.setIfInBounds_toArray, List.set_cons_zero, List.set_cons_succ]
    refine wpQ_callB rfl 18 #[.agg #[.bool p0, .int .i64 f0, .bool q0, .int .i64 t0], .int .i64 j] (fun w' => by simp [go_sem]) (.bool false) (Nat.le_refl _) (fun w' hw => RA.out w') ?_
    simp only [Act.put, List.setIfInBounds_toArray, List.set_cons_zero, List.set_cons_succ]
    refine wpQ_run rfl (.bool false) (fun w' hw => by simp [go_sem]) ?_
    simp only [Act.put, List.setIfInBounds_toArray, List.set_cons_zero, List.set_cons_succ]
    refine wpQ_run rfl (.bool false) (fun w' hw => by simp [go_sem]) ?_
    simp only [Act.put, List.setIfInBounds_toArray, List.set_cons_zero, List.set_cons_succ]
    refine wpQ_load_box rfl 23 _ rfl M.out (by rfl) M.out.lt Tryd.underlying23 rfl (by kernel_rfl) ?_
    simp only [Act.put, List.setIfInBounds_toArray, List.set_cons_zero, List.set_cons_succ]
    refine wpQ_run rfl (.int .i64 j) (fun w' hw => by simp [go_sem]) ?_
    simp only [Act.put, List.setIfInBounds_toArray, List.set_cons_zero, List.set_cons_succ]
    refine wpQ_callB rfl 17 #[.agg #[.bool mp, .int .i64 mf, .bool mq, .int .i64 mt], .int .i64 j] (fun w' => by simp [go_sem]) (.bool false) (Nat.le_refl _) (fun w' hw => CB.out w') ?_
    simp only [Act.put, List.setIfInBounds_toArray, List.set_cons_zero, List.set_cons_succ]
    refine wpQ_load_box rfl 23 _ rfl X.out (by rfl) X.out.lt Tryd.underlying23 rfl (by kernel_rfl) ?_
    simp only [Act.put, List.setIfInBounds_toArray, List.set_cons_zero, List.set_cons_succ]
    refine wpQ_run rfl (.int .i64 j) (fun w' hw => by simp [go_sem]) ?_
    simp only [Act.put, List.setIfInBounds_toArray, List.set_cons_zero, List.set_cons_succ]
    refine wpQ_callB rfl 18 #[.agg #[.bool p0, .int .i64 f0, .bool q0, .int .i64 t0], .int .i64 j] (fun w' => by simp [go_sem]) (.bool false) (Nat.le_refl _) (fun w' hw => RA.out w') ?_
    simp only [Act.put, List.setIfInBounds_toArray, List.set_cons_zero, List.set_cons_succ]
    refine wpQ_run rfl (.bool false) (fun w' hw => by simp [go_sem]) ?_
    simp only [Act.put, List.setIfInBounds_toArray, List.set_cons_zero, List.set_cons_succ]
    refine wpQ_skip rfl ?_
    simp only [Act.put, List.setIfInBounds_toArray, List.set_cons_zero, List.set_cons_succ]
    refine wpQ_skip rfl ?_
    simp only [Act.put, List.setIfInBounds_toArray, List.set_cons_zero, List.set_cons_succ]
    refine wpQ_skip rfl ?_
    simp only [Act.put, List.setIfInBounds_toArray, List.set_cons_zero, List.set_cons_succ]
    refine wpQ_run rfl (.bool false) (fun w' hw => by simp [go_sem]) ?_
    simp only [Act.put, List.setIfInBounds_toArray, List.set_cons_zero, List.set_cons_succ]
    refine wpQ_run rfl (.bool false) (fun w' hw => by simp [go_sem]) ?_
    simp only [Act.put, List.setIfInBounds_toArray, List.set_cons_zero, List.set_cons_succ]
    refine wpQ_run rfl (.bool false) (fun w' hw => by simp [go_sem]) ?_
    simp only [Act.put, List.setIfInBounds_toArray, List.set_cons_zero, List.set_cons_succ]
    intro w81 hb81
    replace X := Lib.hid (X.out.after hb81)
    replace Y := Lib.hid (Y.out.after hb81)
    replace M := Lib.hid (M.out.after hb81)
    replace B := B.trans (hb81.mono B.size)
    clear hb81
    cases em
    case false =>
      cases p0
      case false =>
        obtain rfl : ea = false := by rw [HEF.out]; rfl
        go_upto_region 4 with fail
        refine wp_region_made w81.heap.size w81 rfl (by kernel_rfl) (Below.refl _ _) ?_
        refine wpQ_load_box rfl 23 _ rfl M.out (by rfl) M.out.lt Tryd.underlying23 rfl (by kernel_rfl) ?_
        simp only [Act.put, List.setIfInBounds_toArray, List.set_cons_zero, List.set_cons_succ]
        refine wpQ_callB rfl 19 #[.agg #[.bool mp, .int .i64 mf, .bool mq, .int .i64 mt]] (fun w' => by simp [go_sem]) (.bool false) (Nat.le_refl _) (fun w' hw => CE.out w') ?_
        simp only [Act.put, List.setIfInBounds_toArray, List.set_cons_zero, List.set_cons_succ]
        refine wpQ_run rfl (.bool true) (fun w' hw => by simp [go_sem]) ?_
        simp only [Act.put, List.setIfInBounds_toArray, List.set_cons_zero, List.set_cons_succ]
        refine wpQ_run rfl (.bool true) (fun w' hw => by simp [go_sem]) ?_
        simp only [Act.put, List.setIfInBounds_toArray, List.set_cons_zero, List.set_cons_succ]
        refine wpQ_skip rfl ?_
        simp only [Act.put, List.setIfInBounds_toArray, List.set_cons_zero, List.set_cons_succ]
        refine wpQ_skip rfl ?_
        simp only [Act.put, List.setIfInBounds_toArray, List.set_cons_zero, List.set_cons_succ]
        refine wpQ_skip rfl ?_
        simp only [Act.put, List.setIfInBounds_toArray, List.set_cons_zero, List.set_cons_succ]
        refine wpQ_skip rfl ?_
        simp only [Act.put, List.setIfInBounds_toArray, List.set_cons_zero, List.set_cons_succ]
        refine wpQ_run rfl (.bool true) (fun w' hw => by simp [go_sem]) ?_
        simp only [Act.put, List.setIfInBounds_toArray, List.set_cons_zero, List.set_cons_succ]
        refine wpQ_run rfl (.bool true) (fun w' hw => by simp [go_sem]) ?_
        simp only [Act.put, List.setIfInBounds_toArray, List.set_cons_zero, List.set_cons_succ]
        refine wpQ_load_box rfl 23 _ rfl X.out (by rfl) X.out.lt Tryd.underlying23 rfl (by kernel_rfl) ?_
        simp only [Act.put, List.setIfInBounds_toArray, List.set_cons_zero, List.set_cons_succ]
        refine wpQ_callB rfl 19 #[.agg #[.bool false, .int .i64 f0, .bool q0, .int .i64 t0]] (fun w' => by simp [go_sem]) (.bool false) (Nat.le_refl _) (fun w' hw => CF.out w') ?_
        simp only [Act.put, List.setIfInBounds_toArray, List.set_cons_zero, List.set_cons_succ]
        refine wpQ_run rfl (.pointer (some ⟨w.heap.size, 0, none⟩)) (fun w' hw => by simp [go_sem]) ?_
        simp only [Act.put, List.setIfInBounds_toArray, List.set_cons_zero, List.set_cons_succ]
        refine wpQ_run rfl (.bool false) (fun w' hw => by have := (X.out.after hw).cell 0 rfl; simp [go_sem, this]) ?_
        simp only [Act.put, List.setIfInBounds_toArray, List.set_cons_zero, List.set_cons_succ]
        refine wpQ_run rfl (.bool false) (fun w' hw => by simp [go_sem]) ?_
        simp only [Act.put, List.setIfInBounds_toArray, List.set_cons_zero, List.set_cons_succ]
        refine wpQ_skip rfl ?_
        simp only [Act.put, List.setIfInBounds_toArray, List.set_cons_zero, List.set_cons_succ]
        refine wpQ_skip rfl ?_
        simp only [Act.put, List.setIfInBounds_toArray, List.set_cons_zero, List.set_cons_succ]
        refine wpQ_run rfl (.bool false) (fun w' hw => by simp [go_sem]) ?_
        simp only [Act.put, List.setIfInBounds_toArray, List.set_cons_zero, List.set_cons_succ]
        refine wpQ_run rfl (.bool false) (fun w' hw => by simp [go_sem]) ?_
        simp only [Act.put, List.setIfInBounds_toArray, List.set_cons_zero, List.set_cons_succ]
        refine wpQ_skip rfl ?_
        simp only [Act.put, List.setIfInBounds_toArray, List.set_cons_zero, List.set_cons_succ]
        refine wpQ_skip rfl ?_
        simp only [Act.put, List.setIfInBounds_toArray, List.set_cons_zero, List.set_cons_succ]
        refine wpQ_skip rfl ?_
        simp only [Act.put, List.setIfInBounds_toArray, List.set_cons_zero, List.set_cons_succ]
        refine wpQ_skip rfl ?_
        simp only [Act.put, List.setIfInBounds_toArray, List.set_cons_zero, List.set_cons_succ]
        refine wpQ_skip rfl ?_
        simp only [Act.put, List.setIfInBounds_toArray, List.set_cons_zero, List.set_cons_succ]
        refine wpQ_run rfl (.bool false) (fun w' hw => by simp [go_sem]) ?_
        simp only [Act.put, List.setIfInBounds_toArray, List.set_cons_zero, List.set_cons_succ]
        refine wpQ_run rfl (.bool true) (fun w' hw => by simp [go_sem]) ?_
        simp only [Act.put, List.setIfInBounds_toArray, List.set_cons_zero, List.set_cons_succ]
        refine wpQ_run rfl (.bool true) (fun w' hw => by simp [go_sem]) ?_
        simp only [Act.put, List.setIfInBounds_toArray, List.set_cons_zero, List.set_cons_succ]
        refine wpQ_run rfl (.bool true) (fun w' hw => by simp [go_sem]) ?_
        simp only [Act.put, List.setIfInBounds_toArray, List.set_cons_zero, List.set_cons_succ]
        refine wpQ_callB rfl 11 #[] (fun w' => by simp [go_sem]) (.bool true) (Nat.le_refl _) (fun w' hw => awake_any w' (HT.out.after (B.trans (hw.mono B.size)))) ?_
        simp only [Act.put, List.setIfInBounds_toArray, List.set_cons_zero, List.set_cons_succ]
        refine wpQ_run rfl (.bool true) (fun w' hw => by simp [go_sem]) ?_
        simp only [Act.put, List.setIfInBounds_toArray, List.set_cons_zero, List.set_cons_succ]
        refine wpQ_run rfl (.bool true) (fun w' hw => by simp [go_sem]) ?_
        simp only [Act.put, List.setIfInBounds_toArray, List.set_cons_zero, List.set_cons_succ]
        intro w82 hb82
        replace X := Lib.hid (X.out.after hb82)
        replace Y := Lib.hid (Y.out.after hb82)
        replace M := Lib.hid (M.out.after hb82)
        replace B := B.trans (hb82.mono B.size)
        clear hb82
        go_wp2_with fail
        go_ret
        exact ⟨rfl, B⟩
      case true =>
        cases q0
        case false =>
          obtain rfl : ea = false := by rw [HEF.out]; rfl
          go_upto_region 4 with fail
          refine wp_region_made w81.heap.size w81 rfl (by kernel_rfl) (Below.refl _ _) ?_
          refine wpQ_load_box rfl 23 _ rfl M.out (by rfl) M.out.lt Tryd.underlying23 rfl (by kernel_rfl) ?_
          simp only [Act.put, List.setIfInBounds_toArray, List.set_cons_zero, List.set_cons_succ]
          refine wpQ_callB rfl 19 #[.agg #[.bool mp, .int .i64 mf, .bool mq, .int .i64 mt]] (fun w' => by simp [go_sem]) (.bool false) (Nat.le_refl _) (fun w' hw => CE.out w') ?_
          simp only [Act.put, List.setIfInBounds_toArray, List.set_cons_zero, List.set_cons_succ]
          refine wpQ_run rfl (.bool true) (fun w' hw => by simp [go_sem]) ?_
          simp only [Act.put, List.setIfInBounds_toArray, List.set_cons_zero, List.set_cons_succ]
          refine wpQ_run rfl (.bool true) (fun w' hw => by simp [go_sem]) ?_
          simp only [Act.put, List.setIfInBounds_toArray, List.set_cons_zero, List.set_cons_succ]
          refine wpQ_skip rfl ?_
          simp only [Act.put, List.setIfInBounds_toArray, List.set_cons_zero, List.set_cons_succ]
          refine wpQ_skip rfl ?_
          simp only [Act.put, List.setIfInBounds_toArray, List.set_cons_zero, List.set_cons_succ]
          refine wpQ_skip rfl ?_
          simp only [Act.put, List.setIfInBounds_toArray, List.set_cons_zero, List.set_cons_succ]
          refine wpQ_skip rfl ?_
          simp only [Act.put, List.setIfInBounds_toArray, List.set_cons_zero, List.set_cons_succ]
          refine wpQ_run rfl (.bool true) (fun w' hw => by simp [go_sem]) ?_
          simp only [Act.put, List.setIfInBounds_toArray, List.set_cons_zero, List.set_cons_succ]
          refine wpQ_run rfl (.bool true) (fun w' hw => by simp [go_sem]) ?_
          simp only [Act.put, List.setIfInBounds_toArray, List.set_cons_zero, List.set_cons_succ]
          refine wpQ_load_box rfl 23 _ rfl X.out (by rfl) X.out.lt Tryd.underlying23 rfl (by kernel_rfl) ?_
          simp only [Act.put, List.setIfInBounds_toArray, List.set_cons_zero, List.set_cons_succ]
          refine wpQ_callB rfl 19 #[.agg #[.bool true, .int .i64 f0, .bool false, .int .i64 t0]] (fun w' => by simp [go_sem]) (.bool false) (Nat.le_refl _) (fun w' hw => CF.out w') ?_
          simp only [Act.put, List.setIfInBounds_toArray, List.set_cons_zero, List.set_cons_succ]
          refine wpQ_run rfl (.pointer (some ⟨w.heap.size, 0, none⟩)) (fun w' hw => by simp [go_sem]) ?_
          simp only [Act.put, List.setIfInBounds_toArray, List.set_cons_zero, List.set_cons_succ]
          refine wpQ_run rfl (.bool true) (fun w' hw => by have := (X.out.after hw).cell 0 rfl; simp [go_sem, this]) ?_
          simp only [Act.put, List.setIfInBounds_toArray, List.set_cons_zero, List.set_cons_succ]
          refine wpQ_run rfl (.bool true) (fun w' hw => by simp [go_sem]) ?_
          simp only [Act.put, List.setIfInBounds_toArray, List.set_cons_zero, List.set_cons_succ]
          refine wpQ_run rfl (.pointer (some ⟨w.heap.size, 2, none⟩)) (fun w' hw => by simp [go_sem]) ?_
          simp only [Act.put, List.setIfInBounds_toArray, List.set_cons_zero, List.set_cons_succ]
          refine wpQ_run rfl (.bool false) (fun w' hw => by have := (X.out.after hw).cell 2 rfl; simp [go_sem, this]) ?_
          simp only [Act.put, List.setIfInBounds_toArray, List.set_cons_zero, List.set_cons_succ]
          refine wpQ_run rfl (.bool false) (fun w' hw => by simp [go_sem]) ?_
          simp only [Act.put, List.setIfInBounds_toArray, List.set_cons_zero, List.set_cons_succ]
          refine wpQ_run rfl (.bool false) (fun w' hw => by simp [go_sem]) ?_
          simp only [Act.put, List.setIfInBounds_toArray, List.set_cons_zero, List.set_cons_succ]
          refine wpQ_skip rfl ?_
          simp only [Act.put, List.setIfInBounds_toArray, List.set_cons_zero, List.set_cons_succ]
          refine wpQ_skip rfl ?_
          simp only [Act.put, List.setIfInBounds_toArray, List.set_cons_zero, List.set_cons_succ]
          refine wpQ_skip rfl ?_
          simp only [Act.put, List.setIfInBounds_toArray, List.set_cons_zero, List.set_cons_succ]
          refine wpQ_skip rfl ?_
          simp only [Act.put, List.setIfInBounds_toArray, List.set_cons_zero, List.set_cons_succ]
          refine wpQ_skip rfl ?_
          simp only [Act.put, List.setIfInBounds_toArray, List.set_cons_zero, List.set_cons_succ]
          refine wpQ_run rfl (.bool false) (fun w' hw => by simp [go_sem]) ?_
          simp only [Act.put, List.setIfInBounds_toArray, List.set_cons_zero, List.set_cons_succ]
          refine wpQ_run rfl (.bool true) (fun w' hw => by simp [go_sem]) ?_
          simp only [Act.put, List.setIfInBounds_toArray, List.set_cons_zero, List.set_cons_succ]
          refine wpQ_run rfl (.bool true) (fun w' hw => by simp [go_sem]) ?_
          simp only [Act.put, List.setIfInBounds_toArray, List.set_cons_zero, List.set_cons_succ]
          refine wpQ_run rfl (.bool true) (fun w' hw => by simp [go_sem]) ?_
          simp only [Act.put, List.setIfInBounds_toArray, List.set_cons_zero, List.set_cons_succ]
          refine wpQ_callB rfl 11 #[] (fun w' => by simp [go_sem]) (.bool true) (Nat.le_refl _) (fun w' hw => awake_any w' (HT.out.after (B.trans (hw.mono B.size)))) ?_
          simp only [Act.put, List.setIfInBounds_toArray, List.set_cons_zero, List.set_cons_succ]
          refine wpQ_run rfl (.bool true) (fun w' hw => by simp [go_sem]) ?_
          simp only [Act.put, List.setIfInBounds_toArray, List.set_cons_zero, List.set_cons_succ]
          refine wpQ_run rfl (.bool true) (fun w' hw => by simp [go_sem]) ?_
          simp only [Act.put, List.setIfInBounds_toArray, List.set_cons_zero, List.set_cons_succ]
          intro w82 hb82
          replace X := Lib.hid (X.out.after hb82)
          replace Y := Lib.hid (Y.out.after hb82)
          replace M := Lib.hid (M.out.after hb82)
          replace B := B.trans (hb82.mono B.size)
          clear hb82
          go_wp2_with fail
          go_ret
          exact ⟨rfl, B⟩
        case true =>
          by_cases hlt : t0 < f0
          case pos =>
            obtain rfl : ea = true := by rw [HEF.out, decide_eq_true hlt]; rfl
            go_upto_region 4 with fail
            refine wp_region_made w81.heap.size w81 rfl (by kernel_rfl) (Below.refl _ _) ?_
            refine wpQ_load_box rfl 23 _ rfl M.out (by rfl) M.out.lt Tryd.underlying23 rfl (by kernel_rfl) ?_
            simp only [Act.put, List.setIfInBounds_toArray, List.set_cons_zero, List.set_cons_succ]
            refine wpQ_callB rfl 19 #[.agg #[.bool mp, .int .i64 mf, .bool mq, .int .i64 mt]] (fun w' => by simp [go_sem]) (.bool false) (Nat.le_refl _) (fun w' hw => CE.out w') ?_
            simp only [Act.put, List.setIfInBounds_toArray, List.set_cons_zero, List.set_cons_succ]
            refine wpQ_run rfl (.bool true) (fun w' hw => by simp [go_sem]) ?_
            simp only [Act.put, List.setIfInBounds_toArray, List.set_cons_zero, List.set_cons_succ]
            refine wpQ_run rfl (.bool true) (fun w' hw => by simp [go_sem]) ?_
            simp only [Act.put, List.setIfInBounds_toArray, List.set_cons_zero, List.set_cons_succ]
            refine wpQ_skip rfl ?_
            simp only [Act.put, List.setIfInBounds_toArray, List.set_cons_zero, List.set_cons_succ]
            refine wpQ_skip rfl ?_
            simp only [Act.put, List.setIfInBounds_toArray, List.set_cons_zero, List.set_cons_succ]
            refine wpQ_skip rfl ?_
            simp only [Act.put, List.setIfInBounds_toArray, List.set_cons_zero, List.set_cons_succ]
            refine wpQ_skip rfl ?_
            simp only [Act.put, List.setIfInBounds_toArray, List.set_cons_zero, List.set_cons_succ]
            refine wpQ_run rfl (.bool true) (fun w' hw => by simp [go_sem]) ?_
            simp only [Act.put, List.setIfInBounds_toArray, List.set_cons_zero, List.set_cons_succ]
            refine wpQ_run rfl (.bool true) (fun w' hw => by simp [go_sem]) ?_
            simp only [Act.put, List.setIfInBounds_toArray, List.set_cons_zero, List.set_cons_succ]
            refine wpQ_load_box rfl 23 _ rfl X.out (by rfl) X.out.lt Tryd.underlying23 rfl (by kernel_rfl) ?_
            simp only [Act.put, List.setIfInBounds_toArray, List.set_cons_zero, List.set_cons_succ]
            refine wpQ_callB rfl 19 #[.agg #[.bool true, .int .i64 f0, .bool true, .int .i64 t0]] (fun w' => by simp [go_sem]) (.bool true) (Nat.le_refl _) (fun w' hw => CF.out w') ?_
            simp only [Act.put, List.setIfInBounds_toArray, List.set_cons_zero, List.set_cons_succ]
            refine wpQ_run rfl (.pointer (some ⟨w.heap.size, 0, none⟩)) (fun w' hw => by simp [go_sem]) ?_
            simp only [Act.put, List.setIfInBounds_toArray, List.set_cons_zero, List.set_cons_succ]
            refine wpQ_run rfl (.bool true) (fun w' hw => by have := (X.out.after hw).cell 0 rfl; simp [go_sem, this]) ?_
            simp only [Act.put, List.setIfInBounds_toArray, List.set_cons_zero, List.set_cons_succ]
            refine wpQ_run rfl (.bool true) (fun w' hw => by simp [go_sem]) ?_
            simp only [Act.put, List.setIfInBounds_toArray, List.set_cons_zero, List.set_cons_succ]
            refine wpQ_run rfl (.pointer (some ⟨w.heap.size, 2, none⟩)) (fun w' hw => by simp [go_sem]) ?_
            simp only [Act.put, List.setIfInBounds_toArray, List.set_cons_zero, List.set_cons_succ]
            refine wpQ_run rfl (.bool true) (fun w' hw => by have := (X.out.after hw).cell 2 rfl; simp [go_sem, this]) ?_
            simp only [Act.put, List.setIfInBounds_toArray, List.set_cons_zero, List.set_cons_succ]
            refine wpQ_run rfl (.bool true) (fun w' hw => by simp [go_sem]) ?_
            simp only [Act.put, List.setIfInBounds_toArray, List.set_cons_zero, List.set_cons_succ]
            refine wpQ_run rfl (.bool true) (fun w' hw => by simp [go_sem]) ?_
            simp only [Act.put, List.setIfInBounds_toArray, List.set_cons_zero, List.set_cons_succ]
            refine wpQ_run rfl (.pointer (some ⟨w.heap.size, 1, none⟩)) (fun w' hw => by simp [go_sem]) ?_
            simp only [Act.put, List.setIfInBounds_toArray, List.set_cons_zero, List.set_cons_succ]
            refine wpQ_run rfl (.int .i64 f0) (fun w' hw => by have := (X.out.after hw).cell 1 rfl; simp [go_sem, this]) ?_
            simp only [Act.put, List.setIfInBounds_toArray, List.set_cons_zero, List.set_cons_succ]
            refine wpQ_run rfl (.pointer (some ⟨w.heap.size, 3, none⟩)) (fun w' hw => by simp [go_sem]) ?_
            simp only [Act.put, List.setIfInBounds_toArray, List.set_cons_zero, List.set_cons_succ]
            refine wpQ_run rfl (.int .i64 t0) (fun w' hw => by have := (X.out.after hw).cell 3 rfl; simp [go_sem, this]) ?_
            simp only [Act.put, List.setIfInBounds_toArray, List.set_cons_zero, List.set_cons_succ]
            refine wpQ_run rfl (.bool true) (fun w' hw => by simp [go_sem]; omega) ?_
            simp only [Act.put, List.setIfInBounds_toArray, List.set_cons_zero, List.set_cons_succ]
            refine wpQ_run rfl (.bool true) (fun w' hw => by simp [go_sem]) ?_
            simp only [Act.put, List.setIfInBounds_toArray, List.set_cons_zero, List.set_cons_succ]
            refine wpQ_run rfl (.bool true) (fun w' hw => by simp [go_sem]) ?_
            simp only [Act.put, List.setIfInBounds_toArray, List.set_cons_zero, List.set_cons_succ]
            refine wpQ_run rfl (.bool true) (fun w' hw => by simp [go_sem]) ?_
            simp only [Act.put, List.setIfInBounds_toArray, List.set_cons_zero, List.set_cons_succ]
            refine wpQ_run rfl (.bool true) (fun w' hw => by simp [go_sem]) ?_
            simp only [Act.put, List.setIfInBounds_toArray, List.set_cons_zero, List.set_cons_succ]
            refine wpQ_callB rfl 11 #[] (fun w' => by simp [go_sem]) (.bool true) (Nat.le_refl _) (fun w' hw => awake_any w' (HT.out.after (B.trans (hw.mono B.size)))) ?_
            simp only [Act.put, List.setIfInBounds_toArray, List.set_cons_zero, List.set_cons_succ]
            refine wpQ_run rfl (.bool true) (fun w' hw => by simp [go_sem]) ?_
            simp only [Act.put, List.setIfInBounds_toArray, List.set_cons_zero, List.set_cons_succ]
            refine wpQ_run rfl (.bool true) (fun w' hw => by simp [go_sem]) ?_
            simp only [Act.put, List.setIfInBounds_toArray, List.set_cons_zero, List.set_cons_succ]
            intro w82 hb82
            replace X := Lib.hid (X.out.after hb82)
            replace Y := Lib.hid (Y.out.after hb82)
            replace M := Lib.hid (M.out.after hb82)
            replace B := B.trans (hb82.mono B.size)
            clear hb82
            go_wp2_with fail
            go_ret
            exact ⟨rfl, B⟩
          case neg =>
            obtain rfl : ea = false := by rw [HEF.out, decide_eq_false hlt]; rfl
            go_upto_region 4 with fail
            refine wp_region_made w81.heap.size w81 rfl (by kernel_rfl) (Below.refl _ _) ?_
            refine wpQ_load_box rfl 23 _ rfl M.out (by rfl) M.out.lt Tryd.underlying23 rfl (by kernel_rfl) ?_
            simp only [Act.put, List.setIfInBounds_toArray, List.set_cons_zero, List.set_cons_succ]
            refine wpQ_callB rfl 19 #[.agg #[.bool mp, .int .i64 mf, .bool mq, .int .i64 mt]] (fun w' => by simp [go_sem]) (.bool false) (Nat.le_refl _) (fun w' hw => CE.out w') ?_
            simp only [Act.put, List.setIfInBounds_toArray, List.set_cons_zero, List.set_cons_succ]
            refine wpQ_run rfl (.bool true) (fun w' hw => by simp [go_sem]) ?_
            simp only [Act.put, List.setIfInBounds_toArray, List.set_cons_zero, List.set_cons_succ]
            refine wpQ_run rfl (.bool true) (fun w' hw => by simp [go_sem]) ?_
            simp only [Act.put, List.setIfInBounds_toArray, List.set_cons_zero, List.set_cons_succ]
            refine wpQ_skip rfl ?_
            simp only [Act.put, List.setIfInBounds_toArray, List.set_cons_zero, List.set_cons_succ]
            refine wpQ_skip rfl ?_
            simp only [Act.put, List.setIfInBounds_toArray, List.set_cons_zero, List.set_cons_succ]
            refine wpQ_skip rfl ?_
            simp only [Act.put, List.setIfInBounds_toArray, List.set_cons_zero, List.set_cons_succ]
            refine wpQ_skip rfl ?_
            simp only [Act.put, List.setIfInBounds_toArray, List.set_cons_zero, List.set_cons_succ]
            refine wpQ_run rfl (.bool true) (fun w' hw => by simp [go_sem]) ?_
            simp only [Act.put, List.setIfInBounds_toArray, List.set_cons_zero, List.set_cons_succ]
            refine wpQ_run rfl (.bool true) (fun w' hw => by simp [go_sem]) ?_
            simp only [Act.put, List.setIfInBounds_toArray, List.set_cons_zero, List.set_cons_succ]
            refine wpQ_load_box rfl 23 _ rfl X.out (by rfl) X.out.lt Tryd.underlying23 rfl (by kernel_rfl) ?_
            simp only [Act.put, List.setIfInBounds_toArray, List.set_cons_zero, List.set_cons_succ]
            refine wpQ_callB rfl 19 #[.agg #[.bool true, .int .i64 f0, .bool true, .int .i64 t0]] (fun w' => by simp [go_sem]) (.bool false) (Nat.le_refl _) (fun w' hw => CF.out w') ?_
            simp only [Act.put, List.setIfInBounds_toArray, List.set_cons_zero, List.set_cons_succ]
            refine wpQ_run rfl (.pointer (some ⟨w.heap.size, 0, none⟩)) (fun w' hw => by simp [go_sem]) ?_
            simp only [Act.put, List.setIfInBounds_toArray, List.set_cons_zero, List.set_cons_succ]
            refine wpQ_run rfl (.bool true) (fun w' hw => by have := (X.out.after hw).cell 0 rfl; simp [go_sem, this]) ?_
            simp only [Act.put, List.setIfInBounds_toArray, List.set_cons_zero, List.set_cons_succ]
            refine wpQ_run rfl (.bool true) (fun w' hw => by simp [go_sem]) ?_
            simp only [Act.put, List.setIfInBounds_toArray, List.set_cons_zero, List.set_cons_succ]
            refine wpQ_run rfl (.pointer (some ⟨w.heap.size, 2, none⟩)) (fun w' hw => by simp [go_sem]) ?_
            simp only [Act.put, List.setIfInBounds_toArray, List.set_cons_zero, List.set_cons_succ]
            refine wpQ_run rfl (.bool true) (fun w' hw => by have := (X.out.after hw).cell 2 rfl; simp [go_sem, this]) ?_
            simp only [Act.put, List.setIfInBounds_toArray, List.set_cons_zero, List.set_cons_succ]
            refine wpQ_run rfl (.bool true) (fun w' hw => by simp [go_sem]) ?_
            simp only [Act.put, List.setIfInBounds_toArray, List.set_cons_zero, List.set_cons_succ]
            refine wpQ_run rfl (.bool true) (fun w' hw => by simp [go_sem]) ?_
            simp only [Act.put, List.setIfInBounds_toArray, List.set_cons_zero, List.set_cons_succ]
            refine wpQ_run rfl (.pointer (some ⟨w.heap.size, 1, none⟩)) (fun w' hw => by simp [go_sem]) ?_
            simp only [Act.put, List.setIfInBounds_toArray, List.set_cons_zero, List.set_cons_succ]
            refine wpQ_run rfl (.int .i64 f0) (fun w' hw => by have := (X.out.after hw).cell 1 rfl; simp [go_sem, this]) ?_
            simp only [Act.put, List.setIfInBounds_toArray, List.set_cons_zero, List.set_cons_succ]
            refine wpQ_run rfl (.pointer (some ⟨w.heap.size, 3, none⟩)) (fun w' hw => by simp [go_sem]) ?_
            simp only [Act.put, List.setIfInBounds_toArray, List.set_cons_zero, List.set_cons_succ]
            refine wpQ_run rfl (.int .i64 t0) (fun w' hw => by have := (X.out.after hw).cell 3 rfl; simp [go_sem, this]) ?_
            simp only [Act.put, List.setIfInBounds_toArray, List.set_cons_zero, List.set_cons_succ]
            refine wpQ_run rfl (.bool false) (fun w' hw => by simp [go_sem]; omega) ?_
            simp only [Act.put, List.setIfInBounds_toArray, List.set_cons_zero, List.set_cons_succ]
            refine wpQ_run rfl (.bool false) (fun w' hw => by simp [go_sem]) ?_
            simp only [Act.put, List.setIfInBounds_toArray, List.set_cons_zero, List.set_cons_succ]
            refine wpQ_run rfl (.bool true) (fun w' hw => by simp [go_sem]) ?_
            simp only [Act.put, List.setIfInBounds_toArray, List.set_cons_zero, List.set_cons_succ]
            refine wpQ_run rfl (.bool true) (fun w' hw => by simp [go_sem]) ?_
            simp only [Act.put, List.setIfInBounds_toArray, List.set_cons_zero, List.set_cons_succ]
            refine wpQ_run rfl (.bool true) (fun w' hw => by simp [go_sem]) ?_
            simp only [Act.put, List.setIfInBounds_toArray, List.set_cons_zero, List.set_cons_succ]
            refine wpQ_callB rfl 11 #[] (fun w' => by simp [go_sem]) (.bool true) (Nat.le_refl _) (fun w' hw => awake_any w' (HT.out.after (B.trans (hw.mono B.size)))) ?_
            simp only [Act.put, List.setIfInBounds_toArray, List.set_cons_zero, List.set_cons_succ]
            refine wpQ_run rfl (.bool true) (fun w' hw => by simp [go_sem]) ?_
            simp only [Act.put, List.setIfInBounds_toArray, List.set_cons_zero, List.set_cons_succ]
            refine wpQ_run rfl (.bool true) (fun w' hw => by simp [go_sem]) ?_
            simp only [Act.put, List.setIfInBounds_toArray, List.set_cons_zero, List.set_cons_succ]
            intro w82 hb82
            replace X := Lib.hid (X.out.after hb82)
            replace Y := Lib.hid (Y.out.after hb82)
            replace M := Lib.hid (M.out.after hb82)
            replace B := B.trans (hb82.mono B.size)
            clear hb82
            go_wp2_with fail
            go_ret
            exact ⟨rfl, B⟩
    case true =>
      cases p0
      case false =>
        obtain rfl : ea = false := by rw [HEF.out]; rfl
        go_upto_region 4 with fail
        refine wp_region_made w81.heap.size w81 rfl (by kernel_rfl) (Below.refl _ _) ?_
        refine wpQ_load_box rfl 23 _ rfl M.out (by rfl) M.out.lt Tryd.underlying23 rfl (by kernel_rfl) ?_
        simp only [Act.put, List.setIfInBounds_toArray, List.set_cons_zero, List.set_cons_succ]
        refine wpQ_callB rfl 19 #[.agg #[.bool mp, .int .i64 mf, .bool mq, .int .i64 mt]] (fun w' => by simp [go_sem]) (.bool true) (Nat.le_refl _) (fun w' hw => CE.out w') ?_
        simp only [Act.put, List.setIfInBounds_toArray, List.set_cons_zero, List.set_cons_succ]
        refine wpQ_run rfl (.bool false) (fun w' hw => by simp [go_sem]) ?_
        simp only [Act.put, List.setIfInBounds_toArray, List.set_cons_zero, List.set_cons_succ]
        refine wpQ_run rfl (.bool false) (fun w' hw => by simp [go_sem]) ?_
        simp only [Act.put, List.setIfInBounds_toArray, List.set_cons_zero, List.set_cons_succ]
        refine wpQ_load_box rfl 23 _ rfl M.out (by rfl) M.out.lt Tryd.underlying23 rfl (by kernel_rfl) ?_
        simp only [Act.put, List.setIfInBounds_toArray, List.set_cons_zero, List.set_cons_succ]
        refine wpQ_run rfl (.int .i64 j) (fun w' hw => by simp [go_sem]) ?_
        simp only [Act.put, List.setIfInBounds_toArray, List.set_cons_zero, List.set_cons_succ]
        refine wpQ_callB rfl 17 #[.agg #[.bool mp, .int .i64 mf, .bool mq, .int .i64 mt], .int .i64 j] (fun w' => by simp [go_sem]) (.bool false) (Nat.le_refl _) (fun w' hw => CB.out w') ?_
        simp only [Act.put, List.setIfInBounds_toArray, List.set_cons_zero, List.set_cons_succ]
        refine wpQ_run rfl (.bool true) (fun w' hw => by simp [go_sem]) ?_
        simp only [Act.put, List.setIfInBounds_toArray, List.set_cons_zero, List.set_cons_succ]
        refine wpQ_run rfl (.bool true) (fun w' hw => by simp [go_sem]) ?_
        simp only [Act.put, List.setIfInBounds_toArray, List.set_cons_zero, List.set_cons_succ]
        refine wpQ_run rfl (.bool true) (fun w' hw => by simp [go_sem]) ?_
        simp only [Act.put, List.setIfInBounds_toArray, List.set_cons_zero, List.set_cons_succ]
        refine wpQ_load_box rfl 23 _ rfl X.out (by rfl) X.out.lt Tryd.underlying23 rfl (by kernel_rfl) ?_
        simp only [Act.put, List.setIfInBounds_toArray, List.set_cons_zero, List.set_cons_succ]
        refine wpQ_callB rfl 19 #[.agg #[.bool false, .int .i64 f0, .bool q0, .int .i64 t0]] (fun w' => by simp [go_sem]) (.bool false) (Nat.le_refl _) (fun w' hw => CF.out w') ?_
        simp only [Act.put, List.setIfInBounds_toArray, List.set_cons_zero, List.set_cons_succ]
        refine wpQ_run rfl (.pointer (some ⟨w.heap.size, 0, none⟩)) (fun w' hw => by simp [go_sem]) ?_
        simp only [Act.put, List.setIfInBounds_toArray, List.set_cons_zero, List.set_cons_succ]
        refine wpQ_run rfl (.bool false) (fun w' hw => by have := (X.out.after hw).cell 0 rfl; simp [go_sem, this]) ?_
        simp only [Act.put, List.setIfInBounds_toArray, List.set_cons_zero, List.set_cons_succ]
        refine wpQ_run rfl (.bool false) (fun w' hw => by simp [go_sem]) ?_
        simp only [Act.put, List.setIfInBounds_toArray, List.set_cons_zero, List.set_cons_succ]
        refine wpQ_skip rfl ?_
        simp only [Act.put, List.setIfInBounds_toArray, List.set_cons_zero, List.set_cons_succ]
        refine wpQ_skip rfl ?_
        simp only [Act.put, List.setIfInBounds_toArray, List.set_cons_zero, List.set_cons_succ]
        refine wpQ_run rfl (.bool false) (fun w' hw => by simp [go_sem]) ?_
        simp only [Act.put, List.setIfInBounds_toArray, List.set_cons_zero, List.set_cons_succ]
        refine wpQ_run rfl (.bool false) (fun w' hw => by simp [go_sem]) ?_
        simp only [Act.put, List.setIfInBounds_toArray, List.set_cons_zero, List.set_cons_succ]
        refine wpQ_skip rfl ?_
        simp only [Act.put, List.setIfInBounds_toArray, List.set_cons_zero, List.set_cons_succ]
        refine wpQ_skip rfl ?_
        simp only [Act.put, List.setIfInBounds_toArray, List.set_cons_zero, List.set_cons_succ]
        refine wpQ_skip rfl ?_
        simp only [Act.put, List.setIfInBounds_toArray, List.set_cons_zero, List.set_cons_succ]
        refine wpQ_skip rfl ?_
        simp only [Act.put, List.setIfInBounds_toArray, List.set_cons_zero, List.set_cons_succ]
        refine wpQ_skip rfl ?_
        simp only [Act.put, List.setIfInBounds_toArray, List.set_cons_zero, List.set_cons_succ]
        refine wpQ_run rfl (.bool false) (fun w' hw => by simp [go_sem]) ?_
        simp only [Act.put, List.setIfInBounds_toArray, List.set_cons_zero, List.set_cons_succ]
        refine wpQ_run rfl (.bool true) (fun w' hw => by simp [go_sem]) ?_
        simp only [Act.put, List.setIfInBounds_toArray, List.set_cons_zero, List.set_cons_succ]
        refine wpQ_run rfl (.bool true) (fun w' hw => by simp [go_sem]) ?_
        simp only [Act.put, List.setIfInBounds_toArray, List.set_cons_zero, List.set_cons_succ]
        refine wpQ_run rfl (.bool true) (fun w' hw => by simp [go_sem]) ?_
        simp only [Act.put, List.setIfInBounds_toArray, List.set_cons_zero, List.set_cons_succ]
        refine wpQ_callB rfl 11 #[] (fun w' => by simp [go_sem]) (.bool true) (Nat.le_refl _) (fun w' hw => awake_any w' (HT.out.after (B.trans (hw.mono B.size)))) ?_
        simp only [Act.put, List.setIfInBounds_toArray, List.set_cons_zero, List.set_cons_succ]
        refine wpQ_run rfl (.bool true) (fun w' hw => by simp [go_sem]) ?_
        simp only [Act.put, List.setIfInBounds_toArray, List.set_cons_zero, List.set_cons_succ]
        refine wpQ_run rfl (.bool true) (fun w' hw => by simp [go_sem]) ?_
        simp only [Act.put, List.setIfInBounds_toArray, List.set_cons_zero, List.set_cons_succ]
        intro w82 hb82
        replace X := Lib.hid (X.out.after hb82)
        replace Y := Lib.hid (Y.out.after hb82)
        replace M := Lib.hid (M.out.after hb82)
        replace B := B.trans (hb82.mono B.size)
        clear hb82
        go_wp2_with fail
        go_ret
        exact ⟨rfl, B⟩
      case true =>
        cases q0
        case false =>
          obtain rfl : ea = false := by rw [HEF.out]; rfl
          go_upto_region 4 with fail
          refine wp_region_made w81.heap.size w81 rfl (by kernel_rfl) (Below.refl _ _) ?_
          refine wpQ_load_box rfl 23 _ rfl M.out (by rfl) M.out.lt Tryd.underlying23 rfl (by kernel_rfl) ?_
          simp only [Act.put, List.setIfInBounds_toArray, List.set_cons_zero, List.set_cons_succ]
          refine wpQ_callB rfl 19 #[.agg #[.bool mp, .int .i64 mf, .bool mq, .int .i64 mt]] (fun w' => by simp [go_sem]) (.bool true) (Nat.le_refl _) (fun w' hw => CE.out w') ?_
          simp only [Act.put, List.setIfInBounds_toArray, List.set_cons_zero, List.set_cons_succ]
          refine wpQ_run rfl (.bool false) (fun w' hw => by simp [go_sem]) ?_
          simp only [Act.put, List.setIfInBounds_toArray, List.set_cons_zero, List.set_cons_succ]
          refine wpQ_run rfl (.bool false) (fun w' hw => by simp [go_sem]) ?_
          simp only [Act.put, List.setIfInBounds_toArray, List.set_cons_zero, List.set_cons_succ]
          refine wpQ_load_box rfl 23 _ rfl M.out (by rfl) M.out.lt Tryd.underlying23 rfl (by kernel_rfl) ?_
          simp only [Act.put, List.setIfInBounds_toArray, List.set_cons_zero, List.set_cons_succ]
          refine wpQ_run rfl (.int .i64 j) (fun w' hw => by simp [go_sem]) ?_
          simp only [Act.put, List.setIfInBounds_toArray, List.set_cons_zero, List.set_cons_succ]
          refine wpQ_callB rfl 17 #[.agg #[.bool mp, .int .i64 mf, .bool mq, .int .i64 mt], .int .i64 j] (fun w' => by simp [go_sem]) (.bool false) (Nat.le_refl _) (fun w' hw => CB.out w') ?_
          simp only [Act.put, List.setIfInBounds_toArray, List.set_cons_zero, List.set_cons_succ]
          refine wpQ_run rfl (.bool true) (fun w' hw => by simp [go_sem]) ?_
          simp only [Act.put, List.setIfInBounds_toArray, List.set_cons_zero, List.set_cons_succ]
          refine wpQ_run rfl (.bool true) (fun w' hw => by simp [go_sem]) ?_
          simp only [Act.put, List.setIfInBounds_toArray, List.set_cons_zero, List.set_cons_succ]
          refine wpQ_run rfl (.bool true) (fun w' hw => by simp [go_sem]) ?_
          simp only [Act.put, List.setIfInBounds_toArray, List.set_cons_zero, List.set_cons_succ]
          refine wpQ_load_box rfl 23 _ rfl X.out (by rfl) X.out.lt Tryd.underlying23 rfl (by kernel_rfl) ?_
          simp only [Act.put, List.setIfInBounds_toArray, List.set_cons_zero, List.set_cons_succ]
          refine wpQ_callB rfl 19 #[.agg #[.bool true, .int .i64 f0, .bool false, .int .i64 t0]] (fun w' => by simp [go_sem]) (.bool false) (Nat.le_refl _) (fun w' hw => CF.out w') ?_
          simp only [Act.put, List.setIfInBounds_toArray, List.set_cons_zero, List.set_cons_succ]
          refine wpQ_run rfl (.pointer (some ⟨w.heap.size, 0, none⟩)) (fun w' hw => by simp [go_sem]) ?_
          simp only [Act.put, List.setIfInBounds_toArray, List.set_cons_zero, List.set_cons_succ]
          refine wpQ_run rfl (.bool true) (fun w' hw => by have := (X.out.after hw).cell 0 rfl; simp [go_sem, this]) ?_
          simp only [Act.put, List.setIfInBounds_toArray, List.set_cons_zero, List.set_cons_succ]
          refine wpQ_run rfl (.bool true) (fun w' hw => by simp [go_sem]) ?_
          simp only [Act.put, List.setIfInBounds_toArray, List.set_cons_zero, List.set_cons_succ]
          refine wpQ_run rfl (.pointer (some ⟨w.heap.size, 2, none⟩)) (fun w' hw => by simp [go_sem]) ?_
          simp only [Act.put, List.setIfInBounds_toArray, List.set_cons_zero, List.set_cons_succ]
          refine wpQ_run rfl (.bool false) (fun w' hw => by have := (X.out.after hw).cell 2 rfl; simp [go_sem, this]) ?_
          simp only [Act.put, List.setIfInBounds_toArray, List.set_cons_zero, List.set_cons_succ]
          refine wpQ_run rfl (.bool false) (fun w' hw => by simp [go_sem]) ?_
          simp only [Act.put, List.setIfInBounds_toArray, List.set_cons_zero, List.set_cons_succ]
          refine wpQ_run rfl (.bool false) (fun w' hw => by simp [go_sem]) ?_
          simp only [Act.put, List.setIfInBounds_toArray, List.set_cons_zero, List.set_cons_succ]
          refine wpQ_skip rfl ?_
          simp only [Act.put, List.setIfInBounds_toArray, List.set_cons_zero, List.set_cons_succ]
          refine wpQ_skip rfl ?_
          simp only [Act.put, List.setIfInBounds_toArray, List.set_cons_zero, List.set_cons_succ]
          refine wpQ_skip rfl ?_
          simp only [Act.put, List.setIfInBounds_toArray, List.set_cons_zero, List.set_cons_succ]
          refine wpQ_skip rfl ?_
          simp only [Act.put, List.setIfInBounds_toArray, List.set_cons_zero, List.set_cons_succ]
          refine wpQ_skip rfl ?_
          simp only [Act.put, List.setIfInBounds_toArray, List.set_cons_zero, List.set_cons_succ]
          refine wpQ_run rfl (.bool false) (fun w' hw => by simp [go_sem]) ?_
          simp only [Act.put, List.setIfInBounds_toArray, List.set_cons_zero, List.set_cons_succ]
          refine wpQ_run rfl (.bool true) (fun w' hw => by simp [go_sem]) ?_
          simp only [Act.put, List.setIfInBounds_toArray, List.set_cons_zero, List.set_cons_succ]
          refine wpQ_run rfl (.bool true) (fun w' hw => by simp [go_sem]) ?_
          simp only [Act.put, List.setIfInBounds_toArray, List.set_cons_zero, List.set_cons_succ]
          refine wpQ_run rfl (.bool true) (fun w' hw => by simp [go_sem]) ?_
          simp only [Act.put, List.setIfInBounds_toArray, List.set_cons_zero, List.set_cons_succ]
          refine wpQ_callB rfl 11 #[] (fun w' => by simp [go_sem]) (.bool true) (Nat.le_refl _) (fun w' hw => awake_any w' (HT.out.after (B.trans (hw.mono B.size)))) ?_
          simp only [Act.put, List.setIfInBounds_toArray, List.set_cons_zero, List.set_cons_succ]
          refine wpQ_run rfl (.bool true) (fun w' hw => by simp [go_sem]) ?_
          simp only [Act.put, List.setIfInBounds_toArray, List.set_cons_zero, List.set_cons_succ]
          refine wpQ_run rfl (.bool true) (fun w' hw => by simp [go_sem]) ?_
          simp only [Act.put, List.setIfInBounds_toArray, List.set_cons_zero, List.set_cons_succ]
          intro w82 hb82
          replace X := Lib.hid (X.out.after hb82)
          replace Y := Lib.hid (Y.out.after hb82)
          replace M := Lib.hid (M.out.after hb82)
          replace B := B.trans (hb82.mono B.size)
          clear hb82
          go_wp2_with fail
          go_ret
          exact ⟨rfl, B⟩
        case true =>
          by_cases hlt : t0 < f0
          case pos =>
            obtain rfl : ea = true := by rw [HEF.out, decide_eq_true hlt]; rfl
            go_upto_region 4 with fail
            refine wp_region_made w81.heap.size w81 rfl (by kernel_rfl) (Below.refl _ _) ?_
            refine wpQ_load_box rfl 23 _ rfl M.out (by rfl) M.out.lt Tryd.underlying23 rfl (by kernel_rfl) ?_
            simp only [Act.put, List.setIfInBounds_toArray, List.set_cons_zero, List.set_cons_succ]
            refine wpQ_callB rfl 19 #[.agg #[.bool mp, .int .i64 mf, .bool mq, .int .i64 mt]] (fun w' => by simp [go_sem]) (.bool true) (Nat.le_refl _) (fun w' hw => CE.out w') ?_
            simp only [Act.put, List.setIfInBounds_toArray, List.set_cons_zero, List.set_cons_succ]
            refine wpQ_run rfl (.bool false) (fun w' hw => by simp [go_sem]) ?_
            simp only [Act.put, List.setIfInBounds_toArray, List.set_cons_zero, List.set_cons_succ]
            refine wpQ_run rfl (.bool false) (fun w' hw => by simp [go_sem]) ?_
            simp only [Act.put, List.setIfInBounds_toArray, List.set_cons_zero, List.set_cons_succ]
            refine wpQ_load_box rfl 23 _ rfl M.out (by rfl) M.out.lt Tryd.underlying23 rfl (by kernel_rfl) ?_
            simp only [Act.put, List.setIfInBounds_toArray, List.set_cons_zero, List.set_cons_succ]
            refine wpQ_run rfl (.int .i64 j) (fun w' hw => by simp [go_sem]) ?_
            simp only [Act.put, List.setIfInBounds_toArray, List.set_cons_zero, List.set_cons_succ]
            refine wpQ_callB rfl 17 #[.agg #[.bool mp, .int .i64 mf, .bool mq, .int .i64 mt], .int .i64 j] (fun w' => by simp [go_sem]) (.bool false) (Nat.le_refl _) (fun w' hw => CB.out w') ?_
            simp only [Act.put, List.setIfInBounds_toArray, List.set_cons_zero, List.set_cons_succ]
            refine wpQ_run rfl (.bool true) (fun w' hw => by simp [go_sem]) ?_
            simp only [Act.put, List.setIfInBounds_toArray, List.set_cons_zero, List.set_cons_succ]
            refine wpQ_run rfl (.bool true) (fun w' hw => by simp [go_sem]) ?_
            simp only [Act.put, List.setIfInBounds_toArray, List.set_cons_zero, List.set_cons_succ]
            refine wpQ_run rfl (.bool true) (fun w' hw => by simp [go_sem]) ?_
            simp only [Act.put, List.setIfInBounds_toArray, List.set_cons_zero, List.set_cons_succ]
            refine wpQ_load_box rfl 23 _ rfl X.out (by rfl) X.out.lt Tryd.underlying23 rfl (by kernel_rfl) ?_
            simp only [Act.put, List.setIfInBounds_toArray, List.set_cons_zero, List.set_cons_succ]
            refine wpQ_callB rfl 19 #[.agg #[.bool true, .int .i64 f0, .bool true, .int .i64 t0]] (fun w' => by simp [go_sem]) (.bool true) (Nat.le_refl _) (fun w' hw => CF.out w') ?_
            simp only [Act.put, List.setIfInBounds_toArray, List.set_cons_zero, List.set_cons_succ]
            refine wpQ_run rfl (.pointer (some ⟨w.heap.size, 0, none⟩)) (fun w' hw => by simp [go_sem]) ?_
            simp only [Act.put, List.setIfInBounds_toArray, List.set_cons_zero, List.set_cons_succ]
            refine wpQ_run rfl (.bool true) (fun w' hw => by have := (X.out.after hw).cell 0 rfl; simp [go_sem, this]) ?_
            simp only [Act.put, List.setIfInBounds_toArray, List.set_cons_zero, List.set_cons_succ]
            refine wpQ_run rfl (.bool true) (fun w' hw => by simp [go_sem]) ?_
            simp only [Act.put, List.setIfInBounds_toArray, List.set_cons_zero, List.set_cons_succ]
            refine wpQ_run rfl (.pointer (some ⟨w.heap.size, 2, none⟩)) (fun w' hw => by simp [go_sem]) ?_
            simp only [Act.put, List.setIfInBounds_toArray, List.set_cons_zero, List.set_cons_succ]
            refine wpQ_run rfl (.bool true) (fun w' hw => by have := (X.out.after hw).cell 2 rfl; simp [go_sem, this]) ?_
            simp only [Act.put, List.setIfInBounds_toArray, List.set_cons_zero, List.set_cons_succ]
            refine wpQ_run rfl (.bool true) (fun w' hw => by simp [go_sem]) ?_
            simp only [Act.put, List.setIfInBounds_toArray, List.set_cons_zero, List.set_cons_succ]
            refine wpQ_run rfl (.bool true) (fun w' hw => by simp [go_sem]) ?_
            simp only [Act.put, List.setIfInBounds_toArray, List.set_cons_zero, List.set_cons_succ]
            refine wpQ_run rfl (.pointer (some ⟨w.heap.size, 1, none⟩)) (fun w' hw => by simp [go_sem]) ?_
            simp only [Act.put, List.setIfInBounds_toArray, List.set_cons_zero, List.set_cons_succ]
            refine wpQ_run rfl (.int .i64 f0) (fun w' hw => by have := (X.out.after hw).cell 1 rfl; simp [go_sem, this]) ?_
            simp only [Act.put, List.setIfInBounds_toArray, List.set_cons_zero, List.set_cons_succ]
            refine wpQ_run rfl (.pointer (some ⟨w.heap.size, 3, none⟩)) (fun w' hw => by simp [go_sem]) ?_
            simp only [Act.put, List.setIfInBounds_toArray, List.set_cons_zero, List.set_cons_succ]
            refine wpQ_run rfl (.int .i64 t0) (fun w' hw => by have := (X.out.after hw).cell 3 rfl; simp [go_sem, this]) ?_
            simp only [Act.put, List.setIfInBounds_toArray, List.set_cons_zero, List.set_cons_succ]
            refine wpQ_run rfl (.bool true) (fun w' hw => by simp [go_sem]; omega) ?_
            simp only [Act.put, List.setIfInBounds_toArray, List.set_cons_zero, List.set_cons_succ]
            refine wpQ_run rfl (.bool true) (fun w' hw => by simp [go_sem]) ?_
            simp only [Act.put, List.setIfInBounds_toArray, List.set_cons_zero, List.set_cons_succ]
            refine wpQ_run rfl (.bool true) (fun w' hw => by simp [go_sem]) ?_
            simp only [Act.put, List.setIfInBounds_toArray, List.set_cons_zero, List.set_cons_succ]
            refine wpQ_run rfl (.bool true) (fun w' hw => by simp [go_sem]) ?_
            simp only [Act.put, List.setIfInBounds_toArray, List.set_cons_zero, List.set_cons_succ]
            refine wpQ_run rfl (.bool true) (fun w' hw => by simp [go_sem]) ?_
            simp only [Act.put, List.setIfInBounds_toArray, List.set_cons_zero, List.set_cons_succ]
            refine wpQ_callB rfl 11 #[] (fun w' => by simp [go_sem]) (.bool true) (Nat.le_refl _) (fun w' hw => awake_any w' (HT.out.after (B.trans (hw.mono B.size)))) ?_
            simp only [Act.put, List.setIfInBounds_toArray, List.set_cons_zero, List.set_cons_succ]
            refine wpQ_run rfl (.bool true) (fun w' hw => by simp [go_sem]) ?_
            simp only [Act.put, List.setIfInBounds_toArray, List.set_cons_zero, List.set_cons_succ]
            refine wpQ_run rfl (.bool true) (fun w' hw => by simp [go_sem]) ?_
            simp only [Act.put, List.setIfInBounds_toArray, List.set_cons_zero, List.set_cons_succ]
            intro w82 hb82
            replace X := Lib.hid (X.out.after hb82)
            replace Y := Lib.hid (Y.out.after hb82)
            replace M := Lib.hid (M.out.after hb82)
            replace B := B.trans (hb82.mono B.size)
            clear hb82
            go_wp2_with fail
            go_ret
            exact ⟨rfl, B⟩
          case neg =>
            obtain rfl : ea = false := by rw [HEF.out, decide_eq_false hlt]; rfl
            go_upto_region 4 with fail
            refine wp_region_made w81.heap.size w81 rfl (by kernel_rfl) (Below.refl _ _) ?_
            refine wpQ_load_box rfl 23 _ rfl M.out (by rfl) M.out.lt Tryd.underlying23 rfl (by kernel_rfl) ?_
            simp only [Act.put, List.setIfInBounds_toArray, List.set_cons_zero, List.set_cons_succ]
            refine wpQ_callB rfl 19 #[.agg #[.bool mp, .int .i64 mf, .bool mq, .int .i64 mt]] (fun w' => by simp [go_sem]) (.bool true) (Nat.le_refl _) (fun w' hw => CE.out w') ?_
            simp only [Act.put, List.setIfInBounds_toArray, List.set_cons_zero, List.set_cons_succ]
            refine wpQ_run rfl (.bool false) (fun w' hw => by simp [go_sem]) ?_
            simp only [Act.put, List.setIfInBounds_toArray, List.set_cons_zero, List.set_cons_succ]
            refine wpQ_run rfl (.bool false) (fun w' hw => by simp [go_sem]) ?_
            simp only [Act.put, List.setIfInBounds_toArray, List.set_cons_zero, List.set_cons_succ]
            refine wpQ_load_box rfl 23 _ rfl M.out (by rfl) M.out.lt Tryd.underlying23 rfl (by kernel_rfl) ?_
            simp only [Act.put, List.setIfInBounds_toArray, List.set_cons_zero, List.set_cons_succ]
            refine wpQ_run rfl (.int .i64 j) (fun w' hw => by simp [go_sem]) ?_
            simp only [Act.put, List.setIfInBounds_toArray, List.set_cons_zero, List.set_cons_succ]
            refine wpQ_callB rfl 17 #[.agg #[.bool mp, .int .i64 mf, .bool mq, .int .i64 mt], .int .i64 j] (fun w' => by simp [go_sem]) (.bool false) (Nat.le_refl _) (fun w' hw => CB.out w') ?_
            simp only [Act.put, List.setIfInBounds_toArray, List.set_cons_zero, List.set_cons_succ]
            refine wpQ_run rfl (.bool true) (fun w' hw => by simp [go_sem]) ?_
            simp only [Act.put, List.setIfInBounds_toArray, List.set_cons_zero, List.set_cons_succ]
            refine wpQ_run rfl (.bool true) (fun w' hw => by simp [go_sem]) ?_
            simp only [Act.put, List.setIfInBounds_toArray, List.set_cons_zero, List.set_cons_succ]
            refine wpQ_run rfl (.bool true) (fun w' hw => by simp [go_sem]) ?_
            simp only [Act.put, List.setIfInBounds_toArray, List.set_cons_zero, List.set_cons_succ]
            refine wpQ_load_box rfl 23 _ rfl X.out (by rfl) X.out.lt Tryd.underlying23 rfl (by kernel_rfl) ?_
            simp only [Act.put, List.setIfInBounds_toArray, List.set_cons_zero, List.set_cons_succ]
            refine wpQ_callB rfl 19 #[.agg #[.bool true, .int .i64 f0, .bool true, .int .i64 t0]] (fun w' => by simp [go_sem]) (.bool false) (Nat.le_refl _) (fun w' hw => CF.out w') ?_
            simp only [Act.put, List.setIfInBounds_toArray, List.set_cons_zero, List.set_cons_succ]
            refine wpQ_run rfl (.pointer (some ⟨w.heap.size, 0, none⟩)) (fun w' hw => by simp [go_sem]) ?_
            simp only [Act.put, List.setIfInBounds_toArray, List.set_cons_zero, List.set_cons_succ]
            refine wpQ_run rfl (.bool true) (fun w' hw => by have := (X.out.after hw).cell 0 rfl; simp [go_sem, this]) ?_
            simp only [Act.put, List.setIfInBounds_toArray, List.set_cons_zero, List.set_cons_succ]
            refine wpQ_run rfl (.bool true) (fun w' hw => by simp [go_sem]) ?_
            simp only [Act.put, List.setIfInBounds_toArray, List.set_cons_zero, List.set_cons_succ]
            refine wpQ_run rfl (.pointer (some ⟨w.heap.size, 2, none⟩)) (fun w' hw => by simp [go_sem]) ?_
            simp only [Act.put, List.setIfInBounds_toArray, List.set_cons_zero, List.set_cons_succ]
            refine wpQ_run rfl (.bool true) (fun w' hw => by have := (X.out.after hw).cell 2 rfl; simp [go_sem, this]) ?_
            simp only [Act.put, List.setIfInBounds_toArray, List.set_cons_zero, List.set_cons_succ]
            refine wpQ_run rfl (.bool true) (fun w' hw => by simp [go_sem]) ?_
            simp only [Act.put, List.setIfInBounds_toArray, List.set_cons_zero, List.set_cons_succ]
            refine wpQ_run rfl (.bool true) (fun w' hw => by simp [go_sem]) ?_
            simp only [Act.put, List.setIfInBounds_toArray, List.set_cons_zero, List.set_cons_succ]
            refine wpQ_run rfl (.pointer (some ⟨w.heap.size, 1, none⟩)) (fun w' hw => by simp [go_sem]) ?_
            simp only [Act.put, List.setIfInBounds_toArray, List.set_cons_zero, List.set_cons_succ]
            refine wpQ_run rfl (.int .i64 f0) (fun w' hw => by have := (X.out.after hw).cell 1 rfl; simp [go_sem, this]) ?_
            simp only [Act.put, List.setIfInBounds_toArray, List.set_cons_zero, List.set_cons_succ]
            refine wpQ_run rfl (.pointer (some ⟨w.heap.size, 3, none⟩)) (fun w' hw => by simp [go_sem]) ?_
            simp only [Act.put, List.setIfInBounds_toArray, List.set_cons_zero, List.set_cons_succ]
            refine wpQ_run rfl (.int .i64 t0) (fun w' hw => by have := (X.out.after hw).cell 3 rfl; simp [go_sem, this]) ?_
            simp only [Act.put, List.setIfInBounds_toArray, List.set_cons_zero, List.set_cons_succ]
            refine wpQ_run rfl (.bool false) (fun w' hw => by simp [go_sem]; omega) ?_
            simp only [Act.put, List.setIfInBounds_toArray, List.set_cons_zero, List.set_cons_succ]
            refine wpQ_run rfl (.bool false) (fun w' hw => by simp [go_sem]) ?_
            simp only [Act.put, List.setIfInBounds_toArray, List.set_cons_zero, List.set_cons_succ]
            refine wpQ_run rfl (.bool true) (fun w' hw => by simp [go_sem]) ?_
            simp only [Act.put, List.setIfInBounds_toArray, List.set_cons_zero, List.set_cons_succ]
            refine wpQ_run rfl (.bool true) (fun w' hw => by simp [go_sem]) ?_
            simp only [Act.put, List.setIfInBounds_toArray, List.set_cons_zero, List.set_cons_succ]
            refine wpQ_run rfl (.bool true) (fun w' hw => by simp [go_sem]) ?_
            simp only [Act.put, List.setIfInBounds_toArray, List.set_cons_zero, List.set_cons_succ]
            refine wpQ_callB rfl 11 #[] (fun w' => by simp [go_sem]) (.bool true) (Nat.le_refl _) (fun w' hw => awake_any w' (HT.out.after (B.trans (hw.mono B.size)))) ?_
            simp only [Act.put, List.setIfInBounds_toArray, List.set_cons_zero, List.set_cons_succ]
            refine wpQ_run rfl (.bool true) (fun w' hw => by simp [go_sem]) ?_
            simp only [Act.put, List.setIfInBounds_toArray, List.set_cons_zero, List.set_cons_succ]
            refine wpQ_run rfl (.bool true) (fun w' hw => by simp [go_sem]) ?_
            simp only [Act.put, List.setIfInBounds_toArray, List.set_cons_zero, List.set_cons_succ]
            intro w82 hb82
            replace X := Lib.hid (X.out.after hb82)
            replace Y := Lib.hid (Y.out.after hb82)
            replace M := Lib.hid (M.out.after hb82)
            replace B := B.trans (hb82.mono B.size)
            clear hb82
            go_wp2_with fail
            go_ret
            exact ⟨rfl, B⟩
  case true =>
    obtain rfl : im = ib := by rw [HIN.out]; rfl
    refine wp_region_made x2.heap.size x2 rfl (by kernel_rfl) (Below.refl _ _) ?_
    refine wpQ_load_box rfl 23 _ rfl X.out (by rfl) X.out.lt Tryd.underlying23 rfl (by kernel_rfl) ?_
    simp only [Act.put, List.setIfInBounds_toArray, List.set_cons_zero, List.set_cons_succ]
    refine wpQ_run rfl (.int .i64 j) (fun w' hw => by simp [go_sem]) ?_
    simp only [Act.put, List.setIfInBounds_toArray, List.set_cons_zero, List.set_cons_succ]
    refine wpQ_callB rfl 17 #[.agg #[.bool p0, .int .i64 f0, .bool q0, .int .i64 t0], .int .i64 j] (fun w' => by simp [go_sem]) (.bool true) (Nat.le_refl _) (fun w' hw => CA.out w') ?_
    simp only [Act.put, List.setIfInBounds_toArray, List.set_cons_zero, List.set_cons_succ]
    refine wpQ_load_box rfl 23 _ rfl X.out (by rfl) X.out.lt Tryd.underlying23 rfl (by kernel_rfl) ?_
    simp only [Act.put, List.setIfInBounds_toArray, List.set_cons_zero, List.set_cons_succ]
    refine wpQ_run rfl (.int .i64 j) (fun w' hw => by simp [go_sem]) ?_
    simp only [Act.put, List.setIfInBounds_toArray, List.set_cons_zero, List.set_cons_succ]
    refine wpQ_callB rfl 18 #[.agg #[.bool p0, .int .i64 f0, .bool q0, .int .i64 t0], .int .i64 j] (fun w' => by simp [go_sem]) (.bool true) (Nat.le_refl _) (fun w' hw => RA.out w') ?_
    simp only [Act.put, List.setIfInBounds_toArray, List.set_cons_zero, List.set_cons_succ]
    refine wpQ_run rfl (.bool false) (fun w' hw => by simp [go_sem]) ?_
    simp only [Act.put, List.setIfInBounds_toArray, List.set_cons_zero, List.set_cons_succ]
    refine wpQ_run rfl (.bool false) (fun w' hw => by simp [go_sem]) ?_
    simp only [Act.put, List.setIfInBounds_toArray, List.set_cons_zero, List.set_cons_succ]
    refine wpQ_load_box rfl 23 _ rfl M.out (by rfl) M.out.lt Tryd.underlying23 rfl (by kernel_rfl) ?_
    simp only [Act.put, List.setIfInBounds_toArray, List.set_cons_zero, List.set_cons_succ]
    refine wpQ_run rfl (.int .i64 j) (fun w' hw => by simp [go_sem]) ?_
    simp only [Act.put, List.setIfInBounds_toArray, List.set_cons_zero, List.set_cons_succ]
    refine wpQ_callB rfl 17 #[.agg #[.bool mp, .int .i64 mf, .bool mq, .int .i64 mt], .int .i64 j] (fun w' => by simp [go_sem]) (.bool im) (Nat.le_refl _) (fun w' hw => CB.out w') ?_
    simp only [Act.put, List.setIfInBounds_toArray, List.set_cons_zero, List.set_cons_succ]
    refine wpQ_load_box rfl 23 _ rfl X.out (by rfl) X.out.lt Tryd.underlying23 rfl (by kernel_rfl) ?_
    simp only [Act.put, List.setIfInBounds_toArray, List.set_cons_zero, List.set_cons_succ]
    refine wpQ_run rfl (.int .i64 j) (fun w' hw => by simp [go_sem]) ?_
    simp only [Act.put, List.setIfInBounds_toArray, List.set_cons_zero, List.set_cons_succ]
    refine wpQ_callB rfl 18 #[.agg #[.bool p0, .int .i64 f0, .bool q0, .int .i64 t0], .int .i64 j] (fun w' => by simp [go_sem]) (.bool true) (Nat.le_refl _) (fun w' hw => RA.out w') ?_
    simp only [Act.put, List.setIfInBounds_toArray, List.set_cons_zero, List.set_cons_succ]
    refine wpQ_run rfl (.bool true) (fun w' hw => by simp [go_sem]) ?_
    simp only [Act.put, List.setIfInBounds_toArray, List.set_cons_zero, List.set_cons_succ]
    refine wpQ_load_box rfl 23 _ rfl Y.out (by rfl) Y.out.lt Tryd.underlying23 rfl (by kernel_rfl) ?_
    simp only [Act.put, List.setIfInBounds_toArray, List.set_cons_zero, List.set_cons_succ]
    refine wpQ_run rfl (.int .i64 j) (fun w' hw => by simp [go_sem]) ?_
    simp only [Act.put, List.setIfInBounds_toArray, List.set_cons_zero, List.set_cons_succ]
    refine wpQ_callB rfl 18 #[.agg #[.bool p1, .int .i64 f1, .bool q1, .int .i64 t1], .int .i64 j] (fun w' => by simp [go_sem]) (.bool im) (Nat.le_refl _) (fun w' hw => RB.out w') ?_
    simp only [Act.put, List.setIfInBounds_toArray, List.set_cons_zero, List.set_cons_succ]
    refine wpQ_run rfl (.bool im) (fun w' hw => by simp [go_sem]) ?_
    simp only [Act.put, List.setIfInBounds_toArray, List.set_cons_zero, List.set_cons_succ]
    refine wpQ_run rfl (.bool false) (fun w' hw => by simp [go_sem]) ?_
    simp only [Act.put, List.setIfInBounds_toArray, List.set_cons_zero, List.set_cons_succ]
    refine wpQ_run rfl (.bool false) (fun w' hw => by simp [go_sem]) ?_
    simp only [Act.put, List.setIfInBounds_toArray, List.set_cons_zero, List.set_cons_succ]
    intro w81 hb81
    replace X := Lib.hid (X.out.after hb81)
    replace Y := Lib.hid (Y.out.after hb81)
    replace M := Lib.hid (M.out.after hb81)
    replace B := B.trans (hb81.mono B.size)
    clear hb81
    cases em
    case false =>
      cases p0
      case false =>
        obtain rfl : ea = false := by rw [HEF.out]; rfl
        go_upto_region 4 with fail
        refine wp_region_made w81.heap.size w81 rfl (by kernel_rfl) (Below.refl _ _) ?_
        refine wpQ_load_box rfl 23 _ rfl M.out (by rfl) M.out.lt Tryd.underlying23 rfl (by kernel_rfl) ?_
        simp only [Act.put, List.setIfInBounds_toArray, List.set_cons_zero, List.set_cons_succ]
        refine wpQ_callB rfl 19 #[.agg #[.bool mp, .int .i64 mf, .bool mq, .int .i64 mt]] (fun w' => by simp [go_sem]) (.bool false) (Nat.le_refl _) (fun w' hw => CE.out w') ?_
        simp only [Act.put, List.setIfInBounds_toArray, List.set_cons_zero, List.set_cons_succ]
        refine wpQ_run rfl (.bool true) (fun w' hw => by simp [go_sem]) ?_
        simp only [Act.put, List.setIfInBounds_toArray, List.set_cons_zero, List.set_cons_succ]
        refine wpQ_run rfl (.bool true) (fun w' hw => by simp [go_sem]) ?_
        simp only [Act.put, List.setIfInBounds_toArray, List.set_cons_zero, List.set_cons_succ]
        refine wpQ_skip rfl ?_
        simp only [Act.put, List.setIfInBounds_toArray, List.set_cons_zero, List.set_cons_succ]
        refine wpQ_skip rfl ?_
        simp only [Act.put, List.setIfInBounds_toArray, List.set_cons_zero, List.set_cons_succ]
        refine wpQ_skip rfl ?_
        simp only [Act.put, List.setIfInBounds_toArray, List.set_cons_zero, List.set_cons_succ]
        refine wpQ_skip rfl ?_
        simp only [Act.put, List.setIfInBounds_toArray, List.set_cons_zero, List.set_cons_succ]
        refine wpQ_run rfl (.bool true) (fun w' hw => by simp [go_sem]) ?_
        simp only [Act.put, List.setIfInBounds_toArray, List.set_cons_zero, List.set_cons_succ]
        refine wpQ_run rfl (.bool true) (fun w' hw => by simp [go_sem]) ?_
        simp only [Act.put, List.setIfInBounds_toArray, List.set_cons_zero, List.set_cons_succ]
        refine wpQ_load_box rfl 23 _ rfl X.out (by rfl) X.out.lt Tryd.underlying23 rfl (by kernel_rfl) ?_
        simp only [Act.put, List.setIfInBounds_toArray, List.set_cons_zero, List.set_cons_succ]
        refine wpQ_callB rfl 19 #[.agg #[.bool false, .int .i64 f0, .bool q0, .int .i64 t0]] (fun w' => by simp [go_sem]) (.bool false) (Nat.le_refl _) (fun w' hw => CF.out w') ?_
        simp only [Act.put, List.setIfInBounds_toArray, List.set_cons_zero, List.set_cons_succ]
        refine wpQ_run rfl (.pointer (some ⟨w.heap.size, 0, none⟩)) (fun w' hw => by simp [go_sem]) ?_
        simp only [Act.put, List.setIfInBounds_toArray, List.set_cons_zero, List.set_cons_succ]
        refine wpQ_run rfl (.bool false) (fun w' hw => by have := (X.out.after hw).cell 0 rfl; simp [go_sem, this]) ?_
        simp only [Act.put, List.setIfInBounds_toArray, List.set_cons_zero, List.set_cons_succ]
        refine wpQ_run rfl (.bool false) (fun w' hw => by simp [go_sem]) ?_
        simp only [Act.put, List.setIfInBounds_toArray, List.set_cons_zero, List.set_cons_succ]
        refine wpQ_skip rfl ?_
        simp only [Act.put, List.setIfInBounds_toArray, List.set_cons_zero, List.set_cons_succ]
        refine wpQ_skip rfl ?_
        simp only [Act.put, List.setIfInBounds_toArray, List.set_cons_zero, List.set_cons_succ]
        refine wpQ_run rfl (.bool false) (fun w' hw => by simp [go_sem]) ?_
        simp only [Act.put, List.setIfInBounds_toArray, List.set_cons_zero, List.set_cons_succ]
        refine wpQ_run rfl (.bool false) (fun w' hw => by simp [go_sem]) ?_
        simp only [Act.put, List.setIfInBounds_toArray, List.set_cons_zero, List.set_cons_succ]
        refine wpQ_skip rfl ?_
        simp only [Act.put, List.setIfInBounds_toArray, List.set_cons_zero, List.set_cons_succ]
        refine wpQ_skip rfl ?_
        simp only [Act.put, List.setIfInBounds_toArray, List.set_cons_zero, List.set_cons_succ]
        refine wpQ_skip rfl ?_
        simp only [Act.put, List.setIfInBounds_toArray, List.set_cons_zero, List.set_cons_succ]
        refine wpQ_skip rfl ?_
        simp only [Act.put, List.setIfInBounds_toArray, List.set_cons_zero, List.set_cons_succ]
        refine wpQ_skip rfl ?_
        simp only [Act.put, List.setIfInBounds_toArray, List.set_cons_zero, List.set_cons_succ]
        refine wpQ_run rfl (.bool false) (fun w' hw => by simp [go_sem]) ?_
        simp only [Act.put, List.setIfInBounds_toArray, List.set_cons_zero, List.set_cons_succ]
        refine wpQ_run rfl (.bool true) (fun w' hw => by simp [go_sem]) ?_
        simp only [Act.put, List.setIfInBounds_toArray, List.set_cons_zero, List.set_cons_succ]
        refine wpQ_run rfl (.bool true) (fun w' hw => by simp [go_sem]) ?_
        simp only [Act.put, List.setIfInBounds_toArray, List.set_cons_zero, List.set_cons_succ]
        refine wpQ_run rfl (.bool true) (fun w' hw => by simp [go_sem]) ?_
        simp only [Act.put, List.setIfInBounds_toArray, List.set_cons_zero, List.set_cons_succ]
        refine wpQ_callB rfl 11 #[] (fun w' => by simp [go_sem]) (.bool true) (Nat.le_refl _) (fun w' hw => awake_any w' (HT.out.after (B.trans (hw.mono B.size)))) ?_
        simp only [Act.put, List.setIfInBounds_toArray, List.set_cons_zero, List.set_cons_succ]
        refine wpQ_run rfl (.bool true) (fun w' hw => by simp [go_sem]) ?_
        simp only [Act.put, List.setIfInBounds_toArray, List.set_cons_zero, List.set_cons_succ]
        refine wpQ_run rfl (.bool true) (fun w' hw => by simp [go_sem]) ?_
        simp only [Act.put, List.setIfInBounds_toArray, List.set_cons_zero, List.set_cons_succ]
        intro w82 hb82
        replace X := Lib.hid (X.out.after hb82)
        replace Y := Lib.hid (Y.out.after hb82)
        replace M := Lib.hid (M.out.after hb82)
        replace B := B.trans (hb82.mono B.size)
        clear hb82
        go_wp2_with fail
        go_ret
        exact ⟨rfl, B⟩
      case true =>
        cases q0
        case false =>
          obtain rfl : ea = false := by rw [HEF.out]; rfl
          go_upto_region 4 with fail
          refine wp_region_made w81.heap.size w81 rfl (by kernel_rfl) (Below.refl _ _) ?_
          refine wpQ_load_box rfl 23 _ rfl M.out (by rfl) M.out.lt Tryd.underlying23 rfl (by kernel_rfl) ?_
          simp only [Act.put, List.setIfInBounds_toArray, List.set_cons_zero, List.set_cons_succ]
          refine wpQ_callB rfl 19 #[.agg #[.bool mp, .int .i64 mf, .bool mq, .int .i64 mt]] (fun w' => by simp [go_sem]) (.bool false) (Nat.le_refl _) (fun w' hw => CE.out w') ?_
          simp only [Act.put, List.setIfInBounds_toArray, List.set_cons_zero, List.set_cons_succ]
          refine wpQ_run rfl (.bool true) (fun w' hw => by simp [go_sem]) ?_
          simp only [Act.put, List.setIfInBounds_toArray, List.set_cons_zero, List.set_cons_succ]
          refine wpQ_run rfl (.bool true) (fun w' hw => by simp [go_sem]) ?_
          simp only [Act.put, List.setIfInBounds_toArray, List.set_cons_zero, List.set_cons_succ]
          refine wpQ_skip rfl ?_
          simp only [Act.put, List.setIfInBounds_toArray, List.set_cons_zero, List.set_cons_succ]
          refine wpQ_skip rfl ?_
          simp only [Act.put, List.setIfInBounds_toArray, List.set_cons_zero, List.set_cons_succ]
          refine wpQ_skip rfl ?_
          simp only [Act.put, List.setIfInBounds_toArray, List.set_cons_zero, List.set_cons_succ]
          refine wpQ_skip rfl ?_
          simp only [Act.put, List.setIfInBounds_toArray, List.set_cons_zero, List.set_cons_succ]
          refine wpQ_run rfl (.bool true) (fun w' hw => by simp [go_sem]) ?_
          simp only [Act.put, List.setIfInBounds_toArray, List.set_cons_zero, List.set_cons_succ]
          refine wpQ_run rfl (.bool true) (fun w' hw => by simp [go_sem]) ?_
          simp only [Act.put, List.setIfInBounds_toArray, List.set_cons_zero, List.set_cons_succ]
          refine wpQ_load_box rfl 23 _ rfl X.out (by rfl) X.out.lt Tryd.underlying23 rfl (by kernel_rfl) ?_
          simp only [Act.put, List.setIfInBounds_toArray, List.set_cons_zero, List.set_cons_succ]
          refine wpQ_callB rfl 19 #[.agg #[.bool true, .int .i64 f0, .bool false, .int .i64 t0]] (fun w' => by simp [go_sem]) (.bool false) (Nat.le_refl _) (fun w' hw => CF.out w') ?_
          simp only [Act.put, List.setIfInBounds_toArray, List.set_cons_zero, List.set_cons_succ]
          refine wpQ_run rfl (.pointer (some ⟨w.heap.size, 0, none⟩)) (fun w' hw => by simp [go_sem]) ?_
          simp only [Act.put, List.setIfInBounds_toArray, List.set_cons_zero, List.set_cons_succ]
          refine wpQ_run rfl (.bool true) (fun w' hw => by have := (X.out.after hw).cell 0 rfl; simp [go_sem, this]) ?_
          simp only [Act.put, List.setIfInBounds_toArray, List.set_cons_zero, List.set_cons_succ]
          refine wpQ_run rfl (.bool true) (fun w' hw => by simp [go_sem]) ?_
          simp only [Act.put, List.setIfInBounds_toArray, List.set_cons_zero, List.set_cons_succ]
          refine wpQ_run rfl (.pointer (some ⟨w.heap.size, 2, none⟩)) (fun w' hw => by simp [go_sem]) ?_
          simp only [Act.put, List.setIfInBounds_toArray, List.set_cons_zero, List.set_cons_succ]
          refine wpQ_run rfl (.bool false) (fun w' hw => by have := (X.out.after hw).cell 2 rfl; simp [go_sem, this]) ?_
          simp only [Act.put, List.setIfInBounds_toArray, List.set_cons_zero, List.set_cons_succ]
          refine wpQ_run rfl (.bool false) (fun w' hw => by simp [go_sem]) ?_
          simp only [Act.put, List.setIfInBounds_toArray, List.set_cons_zero, List.set_cons_succ]
          refine wpQ_run rfl (.bool false) (fun w' hw => by simp [go_sem]) ?_
          simp only [Act.put, List.setIfInBounds_toArray, List.set_cons_zero, List.set_cons_succ]
          refine wpQ_skip rfl ?_
          simp only [Act.put, List.setIfInBounds_toArray, List.set_cons_zero, List.set_cons_succ]
          refine wpQ_skip rfl ?_
          simp only [Act.put, List.setIfInBounds_toArray, List.set_cons_zero, List.set_cons_succ]
          refine wpQ_skip rfl ?_
          simp only [Act.put, List.setIfInBounds_toArray, List.set_cons_zero, List.set_cons_succ]
          refine wpQ_skip rfl ?_
          simp only [Act.put, List.setIfInBounds_toArray, List.set_cons_zero, List.set_cons_succ]
          refine wpQ_skip rfl ?_
          simp only [Act.put, List.setIfInBounds_toArray, List.set_cons_zero, List.set_cons_succ]
          refine wpQ_run rfl (.bool false) (fun w' hw => by simp [go_sem]) ?_
          simp only [Act.put, List.setIfInBounds_toArray, List.set_cons_zero, List.set_cons_succ]
          refine wpQ_run rfl (.bool true) (fun w' hw => by simp [go_sem]) ?_
          simp only [Act.put, List.setIfInBounds_toArray, List.set_cons_zero, List.set_cons_succ]
          refine wpQ_run rfl (.bool true) (fun w' hw => by simp [go_sem]) ?_
          simp only [Act.put, List.setIfInBounds_toArray, List.set_cons_zero, List.set_cons_succ]
          refine wpQ_run rfl (.bool true) (fun w' hw => by simp [go_sem]) ?_
          simp only [Act.put, List.setIfInBounds_toArray, List.set_cons_zero, List.set_cons_succ]
          refine wpQ_callB rfl 11 #[] (fun w' => by simp [go_sem]) (.bool true) (Nat.le_refl _) (fun w' hw => awake_any w' (HT.out.after (B.trans (hw.mono B.size)))) ?_
          simp only [Act.put, List.setIfInBounds_toArray, List.set_cons_zero, List.set_cons_succ]
          refine wpQ_run rfl (.bool true) (fun w' hw => by simp [go_sem]) ?_
          simp only [Act.put, List.setIfInBounds_toArray, List.set_cons_zero, List.set_cons_succ]
          refine wpQ_run rfl (.bool true) (fun w' hw => by simp [go_sem]) ?_
          simp only [Act.put, List.setIfInBounds_toArray, List.set_cons_zero, List.set_cons_succ]
          intro w82 hb82
          replace X := Lib.hid (X.out.after hb82)
          replace Y := Lib.hid (Y.out.after hb82)
          replace M := Lib.hid (M.out.after hb82)
          replace B := B.trans (hb82.mono B.size)
          clear hb82
          go_wp2_with fail
          go_ret
          exact ⟨rfl, B⟩
        case true =>
          by_cases hlt : t0 < f0
          case pos =>
            obtain rfl : ea = true := by rw [HEF.out, decide_eq_true hlt]; rfl
            go_upto_region 4 with fail
            refine wp_region_made w81.heap.size w81 rfl (by kernel_rfl) (Below.refl _ _) ?_
            refine wpQ_load_box rfl 23 _ rfl M.out (by rfl) M.out.lt Tryd.underlying23 rfl (by kernel_rfl) ?_
            simp only [Act.put, List.setIfInBounds_toArray, List.set_cons_zero, List.set_cons_succ]
            refine wpQ_callB rfl 19 #[.agg #[.bool mp, .int .i64 mf, .bool mq, .int .i64 mt]] (fun w' => by simp [go_sem]) (.bool false) (Nat.le_refl _) (fun w' hw => CE.out w') ?_
            simp only [Act.put, List.setIfInBounds_toArray, List.set_cons_zero, List.set_cons_succ]
            refine wpQ_run rfl (.bool true) (fun w' hw => by simp [go_sem]) ?_
            simp only [Act.put, List.setIfInBounds_toArray, List.set_cons_zero, List.set_cons_succ]
            refine wpQ_run rfl (.bool true) (fun w' hw => by simp [go_sem]) ?_
            simp only [Act.put, List.setIfInBounds_toArray, List.set_cons_zero, List.set_cons_succ]
            refine wpQ_skip rfl ?_
            simp only [Act.put, List.setIfInBounds_toArray, List.set_cons_zero, List.set_cons_succ]
            refine wpQ_skip rfl ?_
            simp only [Act.put, List.setIfInBounds_toArray, List.set_cons_zero, List.set_cons_succ]
            refine wpQ_skip rfl ?_
            simp only [Act.put, List.setIfInBounds_toArray, List.set_cons_zero, List.set_cons_succ]
            refine wpQ_skip rfl ?_
            simp only [Act.put, List.setIfInBounds_toArray, List.set_cons_zero, List.set_cons_succ]
            refine wpQ_run rfl (.bool true) (fun w' hw => by simp [go_sem]) ?_
            simp only [Act.put, List.setIfInBounds_toArray, List.set_cons_zero, List.set_cons_succ]
            refine wpQ_run rfl (.bool true) (fun w' hw => by simp [go_sem]) ?_
            simp only [Act.put, List.setIfInBounds_toArray, List.set_cons_zero, List.set_cons_succ]
            refine wpQ_load_box rfl 23 _ rfl X.out (by rfl) X.out.lt Tryd.underlying23 rfl (by kernel_rfl) ?_
            simp only [Act.put, List.setIfInBounds_toArray, List.set_cons_zero, List.set_cons_succ]
            refine wpQ_callB rfl 19 #[.agg #[.bool true, .int .i64 f0, .bool true, .int .i64 t0]] (fun w' => by simp [go_sem]) (.bool true) (Nat.le_refl _) (fun w' hw => CF.out w') ?_
            simp only [Act.put, List.setIfInBounds_toArray, List.set_cons_zero, List.set_cons_succ]
            refine wpQ_run rfl (.pointer (some ⟨w.heap.size, 0, none⟩)) (fun w' hw => by simp [go_sem]) ?_
            simp only [Act.put, List.setIfInBounds_toArray, List.set_cons_zero, List.set_cons_succ]
            refine wpQ_run rfl (.bool true) (fun w' hw => by have := (X.out.after hw).cell 0 rfl; simp [go_sem, this]) ?_
            simp only [Act.put, List.setIfInBounds_toArray, List.set_cons_zero, List.set_cons_succ]
            refine wpQ_run rfl (.bool true) (fun w' hw => by simp [go_sem]) ?_
            simp only [Act.put, List.setIfInBounds_toArray, List.set_cons_zero, List.set_cons_succ]
            refine wpQ_run rfl (.pointer (some ⟨w.heap.size, 2, none⟩)) (fun w' hw => by simp [go_sem]) ?_
            simp only [Act.put, List.setIfInBounds_toArray, List.set_cons_zero, List.set_cons_succ]
            refine wpQ_run rfl (.bool true) (fun w' hw => by have := (X.out.after hw).cell 2 rfl; simp [go_sem, this]) ?_
            simp only [Act.put, List.setIfInBounds_toArray, List.set_cons_zero, List.set_cons_succ]
            refine wpQ_run rfl (.bool true) (fun w' hw => by simp [go_sem]) ?_
            simp only [Act.put, List.setIfInBounds_toArray, List.set_cons_zero, List.set_cons_succ]
            refine wpQ_run rfl (.bool true) (fun w' hw => by simp [go_sem]) ?_
            simp only [Act.put, List.setIfInBounds_toArray, List.set_cons_zero, List.set_cons_succ]
            refine wpQ_run rfl (.pointer (some ⟨w.heap.size, 1, none⟩)) (fun w' hw => by simp [go_sem]) ?_
            simp only [Act.put, List.setIfInBounds_toArray, List.set_cons_zero, List.set_cons_succ]
            refine wpQ_run rfl (.int .i64 f0) (fun w' hw => by have := (X.out.after hw).cell 1 rfl; simp [go_sem, this]) ?_
            simp only [Act.put, List.setIfInBounds_toArray, List.set_cons_zero, List.set_cons_succ]
            refine wpQ_run rfl (.pointer (some ⟨w.heap.size, 3, none⟩)) (fun w' hw => by simp [go_sem]) ?_
            simp only [Act.put, List.setIfInBounds_toArray, List.set_cons_zero, List.set_cons_succ]
            refine wpQ_run rfl (.int .i64 t0) (fun w' hw => by have := (X.out.after hw).cell 3 rfl; simp [go_sem, this]) ?_
            simp only [Act.put, List.setIfInBounds_toArray, List.set_cons_zero, List.set_cons_succ]
            refine wpQ_run rfl (.bool true) (fun w' hw => by simp [go_sem]; omega) ?_
            simp only [Act.put, List.setIfInBounds_toArray, List.set_cons_zero, List.set_cons_succ]
            refine wpQ_run rfl (.bool true) (fun w' hw => by simp [go_sem]) ?_
            simp only [Act.put, List.setIfInBounds_toArray, List.set_cons_zero, List.set_cons_succ]
            refine wpQ_run rfl (.bool true) (fun w' hw => by simp [go_sem]) ?_
            simp only [Act.put, List.setIfInBounds_toArray, List.set_cons_zero, List.set_cons_succ]
            refine wpQ_run rfl (.bool true) (fun w' hw => by simp [go_sem]) ?_
            simp only [Act.put, List.setIfInBounds_toArray, List.set_cons_zero, List.set_cons_succ]
            refine wpQ_run rfl (.bool true) (fun w' hw => by simp [go_sem]) ?_
            simp only [Act.put, List.setIfInBounds_toArray, List.set_cons_zero, List.set_cons_succ]
            refine wpQ_callB rfl 11 #[] (fun w' => by simp [go_sem]) (.bool true) (Nat.le_refl _) (fun w' hw => awake_any w' (HT.out.after (B.trans (hw.mono B.size)))) ?_
            simp only [Act.put, List.setIfInBounds_toArray, List.set_cons_zero, List.set_cons_succ]
            refine wpQ_run rfl (.bool true) (fun w' hw => by simp [go_sem]) ?_
            simp only [Act.put, List.setIfInBounds_toArray, List.set_cons_zero, List.set_cons_succ]
            refine wpQ_run rfl (.bool true) (fun w' hw => by simp [go_sem]) ?_
            simp only [Act.put, List.setIfInBounds_toArray, List.set_cons_zero, List.set_cons_succ]
            intro w82 hb82
            replace X := Lib.hid (X.out.after hb82)
            replace Y := Lib.hid (Y.out.after hb82)
            replace M := Lib.hid (M.out.after hb82)
            replace B := B.trans (hb82.mono B.size)
            clear hb82
            go_wp2_with fail
            go_ret
            exact ⟨rfl, B⟩
          case neg =>
            obtain rfl : ea = false := by rw [HEF.out, decide_eq_false hlt]; rfl
            go_upto_region 4 with fail
            refine wp_region_made w81.heap.size w81 rfl (by kernel_rfl) (Below.refl _ _) ?_
            refine wpQ_load_box rfl 23 _ rfl M.out (by rfl) M.out.lt Tryd.underlying23 rfl (by kernel_rfl) ?_
            simp only [Act.put, List.setIfInBounds_toArray, List.set_cons_zero, List.set_cons_succ]
            refine wpQ_callB rfl 19 #[.agg #[.bool mp, .int .i64 mf, .bool mq, .int .i64 mt]] (fun w' => by simp [go_sem]) (.bool false) (Nat.le_refl _) (fun w' hw => CE.out w') ?_
            simp only [Act.put, List.setIfInBounds_toArray, List.set_cons_zero, List.set_cons_succ]
            refine wpQ_run rfl (.bool true) (fun w' hw => by simp [go_sem]) ?_
            simp only [Act.put, List.setIfInBounds_toArray, List.set_cons_zero, List.set_cons_succ]
            refine wpQ_run rfl (.bool true) (fun w' hw => by simp [go_sem]) ?_
            simp only [Act.put, List.setIfInBounds_toArray, List.set_cons_zero, List.set_cons_succ]
            refine wpQ_skip rfl ?_
            simp only [Act.put, List.setIfInBounds_toArray, List.set_cons_zero, List.set_cons_succ]
            refine wpQ_skip rfl ?_
            simp only [Act.put, List.setIfInBounds_toArray, List.set_cons_zero, List.set_cons_succ]
            refine wpQ_skip rfl ?_
            simp only [Act.put, List.setIfInBounds_toArray, List.set_cons_zero, List.set_cons_succ]
            refine wpQ_skip rfl ?_
            simp only [Act.put, List.setIfInBounds_toArray, List.set_cons_zero, List.set_cons_succ]
            refine wpQ_run rfl (.bool true) (fun w' hw => by simp [go_sem]) ?_
            simp only [Act.put, List.setIfInBounds_toArray, List.set_cons_zero, List.set_cons_succ]
            refine wpQ_run rfl (.bool true) (fun w' hw => by simp [go_sem]) ?_
            simp only [Act.put, List.setIfInBounds_toArray, List.set_cons_zero, List.set_cons_succ]
            refine wpQ_load_box rfl 23 _ rfl X.out (by rfl) X.out.lt Tryd.underlying23 rfl (by kernel_rfl) ?_
            simp only [Act.put, List.setIfInBounds_toArray, List.set_cons_zero, List.set_cons_succ]
            refine wpQ_callB rfl 19 #[.agg #[.bool true, .int .i64 f0, .bool true, .int .i64 t0]] (fun w' => by simp [go_sem]) (.bool false) (Nat.le_refl _) (fun w' hw => CF.out w') ?_
            simp only [Act.put, List.setIfInBounds_toArray, List.set_cons_zero, List.set_cons_succ]
            refine wpQ_run rfl (.pointer (some ⟨w.heap.size, 0, none⟩)) (fun w' hw => by simp [go_sem]) ?_
            simp only [Act.put, List.setIfInBounds_toArray, List.set_cons_zero, List.set_cons_succ]
            refine wpQ_run rfl (.bool true) (fun w' hw => by have := (X.out.after hw).cell 0 rfl; simp [go_sem, this]) ?_
            simp only [Act.put, List.setIfInBounds_toArray, List.set_cons_zero, List.set_cons_succ]
            refine wpQ_run rfl (.bool true) (fun w' hw => by simp [go_sem]) ?_
            simp only [Act.put, List.setIfInBounds_toArray, List.set_cons_zero, List.set_cons_succ]
            refine wpQ_run rfl (.pointer (some ⟨w.heap.size, 2, none⟩)) (fun w' hw => by simp [go_sem]) ?_
            simp only [Act.put, List.setIfInBounds_toArray, List.set_cons_zero, List.set_cons_succ]
            refine wpQ_run rfl (.bool true) (fun w' hw => by have := (X.out.after hw).cell 2 rfl; simp [go_sem, this]) ?_
            simp only [Act.put, List.setIfInBounds_toArray, List.set_cons_zero, List.set_cons_succ]
            refine wpQ_run rfl (.bool true) (fun w' hw => by simp [go_sem]) ?_
            simp only [Act.put, List.setIfInBounds_toArray, List.set_cons_zero, List.set_cons_succ]
            refine wpQ_run rfl (.bool true) (fun w' hw => by simp [go_sem]) ?_
            simp only [Act.put, List.setIfInBounds_toArray, List.set_cons_zero, List.set_cons_succ]
            refine wpQ_run rfl (.pointer (some ⟨w.heap.size, 1, none⟩)) (fun w' hw => by simp [go_sem]) ?_
            simp only [Act.put, List.setIfInBounds_toArray, List.set_cons_zero, List.set_cons_succ]
            refine wpQ_run rfl (.int .i64 f0) (fun w' hw => by have := (X.out.after hw).cell 1 rfl; simp [go_sem, this]) ?_
            simp only [Act.put, List.setIfInBounds_toArray, List.set_cons_zero, List.set_cons_succ]
            refine wpQ_run rfl (.pointer (some ⟨w.heap.size, 3, none⟩)) (fun w' hw => by simp [go_sem]) ?_
            simp only [Act.put, List.setIfInBounds_toArray, List.set_cons_zero, List.set_cons_succ]
            refine wpQ_run rfl (.int .i64 t0) (fun w' hw => by have := (X.out.after hw).cell 3 rfl; simp [go_sem, this]) ?_
            simp only [Act.put, List.setIfInBounds_toArray, List.set_cons_zero, List.set_cons_succ]
            refine wpQ_run rfl (.bool false) (fun w' hw => by simp [go_sem]; omega) ?_
            simp only [Act.put, List.setIfInBounds_toArray, List.set_cons_zero, List.set_cons_succ]
            refine wpQ_run rfl (.bool false) (fun w' hw => by simp [go_sem]) ?_
            simp only [Act.put, List.setIfInBounds_toArray, List.set_cons_zero, List.set_cons_succ]
            refine wpQ_run rfl (.bool true) (fun w' hw => by simp [go_sem]) ?_
            simp only [Act.put, List.setIfInBounds_toArray, List.set_cons_zero, List.set_cons_succ]
            refine wpQ_run rfl (.bool true) (fun w' hw => by simp [go_sem]) ?_
            simp only [Act.put, List.setIfInBounds_toArray, List.set_cons_zero, List.set_cons_succ]
            refine wpQ_run rfl (.bool true) (fun w' hw => by simp [go_sem]) ?_
            simp only [Act.put, List.setIfInBounds_toArray, List.set_cons_zero, List.set_cons_succ]
            refine wpQ_callB rfl 11 #[] (fun w' => by simp [go_sem]) (.bool true) (Nat.le_refl _) (fun w' hw => awake_any w' (HT.out.after (B.trans (hw.mono B.size)))) ?_
            simp only [Act.put, List.setIfInBounds_toArray, List.set_cons_zero, List.set_cons_succ]
            refine wpQ_run rfl (.bool true) (fun w' hw => by simp [go_sem]) ?_
            simp only [Act.put, List.setIfInBounds_toArray, List.set_cons_zero, List.set_cons_succ]
            refine wpQ_run rfl (.bool true) (fun w' hw => by simp [go_sem]) ?_
            simp only [Act.put, List.setIfInBounds_toArray, List.set_cons_zero, List.set_cons_succ]
            intro w82 hb82
            replace X := Lib.hid (X.out.after hb82)
            replace Y := Lib.hid (Y.out.after hb82)
            replace M := Lib.hid (M.out.after hb82)
            replace B := B.trans (hb82.mono B.size)
            clear hb82
            go_wp2_with fail
            go_ret
            exact ⟨rfl, B⟩
    case true =>
      obtain rfl : im = false := HEM.out rfl
      cases p0
      case false =>
        obtain rfl : ea = false := by rw [HEF.out]; rfl
        go_upto_region 4 with fail
        refine wp_region_made w81.heap.size w81 rfl (by kernel_rfl) (Below.refl _ _) ?_
        refine wpQ_load_box rfl 23 _ rfl M.out (by rfl) M.out.lt Tryd.underlying23 rfl (by kernel_rfl) ?_
        simp only [Act.put, List.setIfInBounds_toArray, List.set_cons_zero, List.set_cons_succ]
        refine wpQ_callB rfl 19 #[.agg #[.bool mp, .int .i64 mf, .bool mq, .int .i64 mt]] (fun w' => by simp [go_sem]) (.bool true) (Nat.le_refl _) (fun w' hw => CE.out w') ?_
        simp only [Act.put, List.setIfInBounds_toArray, List.set_cons_zero, List.set_cons_succ]
        refine wpQ_run rfl (.bool false) (fun w' hw => by simp [go_sem]) ?_
        simp only [Act.put, List.setIfInBounds_toArray, List.set_cons_zero, List.set_cons_succ]
        refine wpQ_run rfl (.bool false) (fun w' hw => by simp [go_sem]) ?_
        simp only [Act.put, List.setIfInBounds_toArray, List.set_cons_zero, List.set_cons_succ]
        refine wpQ_load_box rfl 23 _ rfl M.out (by rfl) M.out.lt Tryd.underlying23 rfl (by kernel_rfl) ?_
        simp only [Act.put, List.setIfInBounds_toArray, List.set_cons_zero, List.set_cons_succ]
        refine wpQ_run rfl (.int .i64 j) (fun w' hw => by simp [go_sem]) ?_
        simp only [Act.put, List.setIfInBounds_toArray, List.set_cons_zero, List.set_cons_succ]
        refine wpQ_callB rfl 17 #[.agg #[.bool mp, .int .i64 mf, .bool mq, .int .i64 mt], .int .i64 j] (fun w' => by simp [go_sem]) (.bool false) (Nat.le_refl _) (fun w' hw => CB.out w') ?_
        simp only [Act.put, List.setIfInBounds_toArray, List.set_cons_zero, List.set_cons_succ]
        refine wpQ_run rfl (.bool true) (fun w' hw => by simp [go_sem]) ?_
        simp only [Act.put, List.setIfInBounds_toArray, List.set_cons_zero, List.set_cons_succ]
        refine wpQ_run rfl (.bool true) (fun w' hw => by simp [go_sem]) ?_
        simp only [Act.put, List.setIfInBounds_toArray, List.set_cons_zero, List.set_cons_succ]
        refine wpQ_run rfl (.bool true) (fun w' hw => by simp [go_sem]) ?_
        simp only [Act.put, List.setIfInBounds_toArray, List.set_cons_zero, List.set_cons_succ]
        refine wpQ_load_box rfl 23 _ rfl X.out (by rfl) X.out.lt Tryd.underlying23 rfl (by kernel_rfl) ?_
        simp only [Act.put, List.setIfInBounds_toArray, List.set_cons_zero, List.set_cons_succ]
        refine wpQ_callB rfl 19 #[.agg #[.bool false, .int .i64 f0, .bool q0, .int .i64 t0]] (fun w' => by simp [go_sem]) (.bool false) (Nat.le_refl _) (fun w' hw => CF.out w') ?_
        simp only [Act.put, List.setIfInBounds_toArray, List.set_cons_zero, List.set_cons_succ]
        refine wpQ_run rfl (.pointer (some ⟨w.heap.size, 0, none⟩)) (fun w' hw => by simp [go_sem]) ?_
        simp only [Act.put, List.setIfInBounds_toArray, List.set_cons_zero, List.set_cons_succ]
        refine wpQ_run rfl (.bool false) (fun w' hw => by have := (X.out.after hw).cell 0 rfl; simp [go_sem, this]) ?_
        simp only [Act.put, List.setIfInBounds_toArray, List.set_cons_zero, List.set_cons_succ]
        refine wpQ_run rfl (.bool false) (fun w' hw => by simp [go_sem]) ?_
        simp only [Act.put, List.setIfInBounds_toArray, List.set_cons_zero, List.set_cons_succ]
        refine wpQ_skip rfl ?_
        simp only [Act.put, List.setIfInBounds_toArray, List.set_cons_zero, List.set_cons_succ]
        refine wpQ_skip rfl ?_
        simp only [Act.put, List.setIfInBounds_toArray, List.set_cons_zero, List.set_cons_succ]
        refine wpQ_run rfl (.bool false) (fun w' hw => by simp [go_sem]) ?_
        simp only [Act.put, List.setIfInBounds_toArray, List.set_cons_zero, List.set_cons_succ]
        refine wpQ_run rfl (.bool false) (fun w' hw => by simp [go_sem]) ?_
        simp only [Act.put, List.setIfInBounds_toArray, List.set_cons_zero, List.set_cons_succ]
        refine wpQ_skip rfl ?_
        simp only [Act.put, List.setIfInBounds_toArray, List.set_cons_zero, List.set_cons_succ]
        refine wpQ_skip rfl ?_
        simp only [Act.put, List.setIfInBounds_toArray, List.set_cons_zero, List.set_cons_succ]
        refine wpQ_skip rfl ?_
        simp only [Act.put, List.setIfInBounds_toArray, List.set_cons_zero, List.set_cons_succ]
        refine wpQ_skip rfl ?_
        simp only [Act.put, List.setIfInBounds_toArray, List.set_cons_zero, List.set_cons_succ]
        refine wpQ_skip rfl ?_
        simp only [Act.put, List.setIfInBounds_toArray, List.set_cons_zero, List.set_cons_succ]
        refine wpQ_run rfl (.bool false) (fun w' hw => by simp [go_sem]) ?_
        simp only [Act.put, List.setIfInBounds_toArray, List.set_cons_zero, List.set_cons_succ]
        refine wpQ_run rfl (.bool true) (fun w' hw => by simp [go_sem]) ?_
        simp only [Act.put, List.setIfInBounds_toArray, List.set_cons_zero, List.set_cons_succ]
        refine wpQ_run rfl (.bool true) (fun w' hw => by simp [go_sem]) ?_
        simp only [Act.put, List.setIfInBounds_toArray, List.set_cons_zero, List.set_cons_succ]
        refine wpQ_run rfl (.bool true) (fun w' hw => by simp [go_sem]) ?_
        simp only [Act.put, List.setIfInBounds_toArray, List.set_cons_zero, List.set_cons_succ]
        refine wpQ_callB rfl 11 #[] (fun w' => by simp [go_sem]) (.bool true) (Nat.le_refl _) (fun w' hw => awake_any w' (HT.out.after (B.trans (hw.mono B.size)))) ?_
        simp only [Act.put, List.setIfInBounds_toArray, List.set_cons_zero, List.set_cons_succ]
        refine wpQ_run rfl (.bool true) (fun w' hw => by simp [go_sem]) ?_
        simp only [Act.put, List.setIfInBounds_toArray, List.set_cons_zero, List.set_cons_succ]
        refine wpQ_run rfl (.bool true) (fun w' hw => by simp [go_sem]) ?_
        simp only [Act.put, List.setIfInBounds_toArray, List.set_cons_zero, List.set_cons_succ]
        intro w82 hb82
        replace X := Lib.hid (X.out.after hb82)
        replace Y := Lib.hid (Y.out.after hb82)
        replace M := Lib.hid (M.out.after hb82)
        replace B := B.trans (hb82.mono B.size)
        clear hb82
        go_wp2_with fail
        go_ret
        exact ⟨rfl, B⟩
      case true =>
        cases q0
        case false =>
          obtain rfl : ea = false := by rw [HEF.out]; rfl
          go_upto_region 4 with fail
          refine wp_region_made w81.heap.size w81 rfl (by kernel_rfl) (Below.refl _ _) ?_
          refine wpQ_load_box rfl 23 _ rfl M.out (by rfl) M.out.lt Tryd.underlying23 rfl (by kernel_rfl) ?_
          simp only [Act.put, List.setIfInBounds_toArray, List.set_cons_zero, List.set_cons_succ]
          refine wpQ_callB rfl 19 #[.agg #[.bool mp, .int .i64 mf, .bool mq, .int .i64 mt]] (fun w' => by simp [go_sem]) (.bool true) (Nat.le_refl _) (fun w' hw => CE.out w') ?_
          simp only [Act.put, List.setIfInBounds_toArray, List.set_cons_zero, List.set_cons_succ]
          refine wpQ_run rfl (.bool false) (fun w' hw => by simp [go_sem]) ?_
          simp only [Act.put, List.setIfInBounds_toArray, List.set_cons_zero, List.set_cons_succ]
          refine wpQ_run rfl (.bool false) (fun w' hw => by simp [go_sem]) ?_
          simp only [Act.put, List.setIfInBounds_toArray, List.set_cons_zero, List.set_cons_succ]
          refine wpQ_load_box rfl 23 _ rfl M.out (by rfl) M.out.lt Tryd.underlying23 rfl (by kernel_rfl) ?_
          simp only [Act.put, List.setIfInBounds_toArray, List.set_cons_zero, List.set_cons_succ]
          refine wpQ_run rfl (.int .i64 j) (fun w' hw => by simp [go_sem]) ?_
          simp only [Act.put, List.setIfInBounds_toArray, List.set_cons_zero, List.set_cons_succ]
          refine wpQ_callB rfl 17 #[.agg #[.bool mp, .int .i64 mf, .bool mq, .int .i64 mt], .int .i64 j] (fun w' => by simp [go_sem]) (.bool false) (Nat.le_refl _) (fun w' hw => CB.out w') ?_
          simp only [Act.put, List.setIfInBounds_toArray, List.set_cons_zero, List.set_cons_succ]
          refine wpQ_run rfl (.bool true) (fun w' hw => by simp [go_sem]) ?_
          simp only [Act.put, List.setIfInBounds_toArray, List.set_cons_zero, List.set_cons_succ]
          refine wpQ_run rfl (.bool true) (fun w' hw => by simp [go_sem]) ?_
          simp only [Act.put, List.setIfInBounds_toArray, List.set_cons_zero, List.set_cons_succ]
          refine wpQ_run rfl (.bool true) (fun w' hw => by simp [go_sem]) ?_
          simp only [Act.put, List.setIfInBounds_toArray, List.set_cons_zero, List.set_cons_succ]
          refine wpQ_load_box rfl 23 _ rfl X.out (by rfl) X.out.lt Tryd.underlying23 rfl (by kernel_rfl) ?_
          simp only [Act.put, List.setIfInBounds_toArray, List.set_cons_zero, List.set_cons_succ]
          refine wpQ_callB rfl 19 #[.agg #[.bool true, .int .i64 f0, .bool false, .int .i64 t0]] (fun w' => by simp [go_sem]) (.bool false) (Nat.le_refl _) (fun w' hw => CF.out w') ?_
          simp only [Act.put, List.setIfInBounds_toArray, List.set_cons_zero, List.set_cons_succ]
          refine wpQ_run rfl (.pointer (some ⟨w.heap.size, 0, none⟩)) (fun w' hw => by simp [go_sem]) ?_
          simp only [Act.put, List.setIfInBounds_toArray, List.set_cons_zero, List.set_cons_succ]
          refine wpQ_run rfl (.bool true) (fun w' hw => by have := (X.out.after hw).cell 0 rfl; simp [go_sem, this]) ?_
          simp only [Act.put, List.setIfInBounds_toArray, List.set_cons_zero, List.set_cons_succ]
          refine wpQ_run rfl (.bool true) (fun w' hw => by simp [go_sem]) ?_
          simp only [Act.put, List.setIfInBounds_toArray, List.set_cons_zero, List.set_cons_succ]
          refine wpQ_run rfl (.pointer (some ⟨w.heap.size, 2, none⟩)) (fun w' hw => by simp [go_sem]) ?_
          simp only [Act.put, List.setIfInBounds_toArray, List.set_cons_zero, List.set_cons_succ]
          refine wpQ_run rfl (.bool false) (fun w' hw => by have := (X.out.after hw).cell 2 rfl; simp [go_sem, this]) ?_
          simp only [Act.put, List.setIfInBounds_toArray, List.set_cons_zero, List.set_cons_succ]
          refine wpQ_run rfl (.bool false) (fun w' hw => by simp [go_sem]) ?_
          simp only [Act.put, List.setIfInBounds_toArray, List.set_cons_zero, List.set_cons_succ]
          refine wpQ_run rfl (.bool false) (fun w' hw => by simp [go_sem]) ?_
          simp only [Act.put, List.setIfInBounds_toArray, List.set_cons_zero, List.set_cons_succ]
          refine wpQ_skip rfl ?_
          simp only [Act.put, List.setIfInBounds_toArray, List.set_cons_zero, List.set_cons_succ]
          refine wpQ_skip rfl ?_
          simp only [Act.put, List.setIfInBounds_toArray, List.set_cons_zero, List.set_cons_succ]
          refine wpQ_skip rfl ?_
          simp only [Act.put, List.setIfInBounds_toArray, List.set_cons_zero, List.set_cons_succ]
          refine wpQ_skip rfl ?_
          simp only [Act.put, List.setIfInBounds_toArray, List.set_cons_zero, List.set_cons_succ]
          refine wpQ_skip rfl ?_
          simp only [Act.put, List.setIfInBounds_toArray, List.set_cons_zero, List.set_cons_succ]
          refine wpQ_run rfl (.bool false) (fun w' hw => by simp [go_sem]) ?_
          simp only [Act.put, List.setIfInBounds_toArray, List.set_cons_zero, List.set_cons_succ]
          refine wpQ_run rfl (.bool true) (fun w' hw => by simp [go_sem]) ?_
          simp only [Act.put, List.setIfInBounds_toArray, List.set_cons_zero, List.set_cons_succ]
          refine wpQ_run rfl (.bool true) (fun w' hw => by simp [go_sem]) ?_
          simp only [Act.put, List.setIfInBounds_toArray, List.set_cons_zero, List.set_cons_succ]
          refine wpQ_run rfl (.bool true) (fun w' hw => by simp [go_sem]) ?_
          simp only [Act.put, List.setIfInBounds_toArray, List.set_cons_zero, List.set_cons_succ]
          refine wpQ_callB rfl 11 #[] (fun w' => by simp [go_sem]) (.bool true) (Nat.le_refl _) (fun w' hw => awake_any w' (HT.out.after (B.trans (hw.mono B.size)))) ?_
          simp only [Act.put, List.setIfInBounds_toArray, List.set_cons_zero, List.set_cons_succ]
          refine wpQ_run rfl (.bool true) (fun w' hw => by simp [go_sem]) ?_
          simp only [Act.put, List.setIfInBounds_toArray, List.set_cons_zero, List.set_cons_succ]
          refine wpQ_run rfl (.bool true) (fun w' hw => by simp [go_sem]) ?_
          simp only [Act.put, List.setIfInBounds_toArray, List.set_cons_zero, List.set_cons_succ]
          intro w82 hb82
          replace X := Lib.hid (X.out.after hb82)
          replace Y := Lib.hid (Y.out.after hb82)
          replace M := Lib.hid (M.out.after hb82)
          replace B := B.trans (hb82.mono B.size)
          clear hb82
          go_wp2_with fail
          go_ret
          exact ⟨rfl, B⟩
        case true =>
          by_cases hlt : t0 < f0
          case pos =>
            obtain rfl : ea = true := by rw [HEF.out, decide_eq_true hlt]; rfl
            go_upto_region 4 with fail
            refine wp_region_made w81.heap.size w81 rfl (by kernel_rfl) (Below.refl _ _) ?_
            refine wpQ_load_box rfl 23 _ rfl M.out (by rfl) M.out.lt Tryd.underlying23 rfl (by kernel_rfl) ?_
            simp only [Act.put, List.setIfInBounds_toArray, List.set_cons_zero, List.set_cons_succ]
            refine wpQ_callB rfl 19 #[.agg #[.bool mp, .int .i64 mf, .bool mq, .int .i64 mt]] (fun w' => by simp [go_sem]) (.bool true) (Nat.le_refl _) (fun w' hw => CE.out w') ?_
            simp only [Act.put, List.setIfInBounds_toArray, List.set_cons_zero, List.set_cons_succ]
            refine wpQ_run rfl (.bool false) (fun w' hw => by simp [go_sem]) ?_
            simp only [Act.put, List.setIfInBounds_toArray, List.set_cons_zero, List.set_cons_succ]
            refine wpQ_run rfl (.bool false) (fun w' hw => by simp [go_sem]) ?_
            simp only [Act.put, List.setIfInBounds_toArray, List.set_cons_zero, List.set_cons_succ]
            refine wpQ_load_box rfl 23 _ rfl M.out (by rfl) M.out.lt Tryd.underlying23 rfl (by kernel_rfl) ?_
            simp only [Act.put, List.setIfInBounds_toArray, List.set_cons_zero, List.set_cons_succ]
            refine wpQ_run rfl (.int .i64 j) (fun w' hw => by simp [go_sem]) ?_
            simp only [Act.put, List.setIfInBounds_toArray, List.set_cons_zero, List.set_cons_succ]
            refine wpQ_callB rfl 17 #[.agg #[.bool mp, .int .i64 mf, .bool mq, .int .i64 mt], .int .i64 j] (fun w' => by simp [go_sem]) (.bool false) (Nat.le_refl _) (fun w' hw => CB.out w') ?_
            simp only [Act.put, List.setIfInBounds_toArray, List.set_cons_zero, List.set_cons_succ]
            refine wpQ_run rfl (.bool true) (fun w' hw => by simp [go_sem]) ?_
            simp only [Act.put, List.setIfInBounds_toArray, List.set_cons_zero, List.set_cons_succ]
            refine wpQ_run rfl (.bool true) (fun w' hw => by simp [go_sem]) ?_
            simp only [Act.put, List.setIfInBounds_toArray, List.set_cons_zero, List.set_cons_succ]
            refine wpQ_run rfl (.bool true) (fun w' hw => by simp [go_sem]) ?_
            simp only [Act.put, List.setIfInBounds_toArray, List.set_cons_zero, List.set_cons_succ]
            refine wpQ_load_box rfl 23 _ rfl X.out (by rfl) X.out.lt Tryd.underlying23 rfl (by kernel_rfl) ?_
            simp only [Act.put, List.setIfInBounds_toArray, List.set_cons_zero, List.set_cons_succ]
            refine wpQ_callB rfl 19 #[.agg #[.bool true, .int .i64 f0, .bool true, .int .i64 t0]] (fun w' => by simp [go_sem]) (.bool true) (Nat.le_refl _) (fun w' hw => CF.out w') ?_
            simp only [Act.put, List.setIfInBounds_toArray, List.set_cons_zero, List.set_cons_succ]
            refine wpQ_run rfl (.pointer (some ⟨w.heap.size, 0, none⟩)) (fun w' hw => by simp [go_sem]) ?_
            simp only [Act.put, List.setIfInBounds_toArray, List.set_cons_zero, List.set_cons_succ]
            refine wpQ_run rfl (.bool true) (fun w' hw => by have := (X.out.after hw).cell 0 rfl; simp [go_sem, this]) ?_
            simp only [Act.put, List.setIfInBounds_toArray, List.set_cons_zero, List.set_cons_succ]
            refine wpQ_run rfl (.bool true) (fun w' hw => by simp [go_sem]) ?_
            simp only [Act.put, List.setIfInBounds_toArray, List.set_cons_zero, List.set_cons_succ]
            refine wpQ_run rfl (.pointer (some ⟨w.heap.size, 2, none⟩)) (fun w' hw => by simp [go_sem]) ?_
            simp only [Act.put, List.setIfInBounds_toArray, List.set_cons_zero, List.set_cons_succ]
            refine wpQ_run rfl (.bool true) (fun w' hw => by have := (X.out.after hw).cell 2 rfl; simp [go_sem, this]) ?_
            simp only [Act.put, List.setIfInBounds_toArray, List.set_cons_zero, List.set_cons_succ]
            refine wpQ_run rfl (.bool true) (fun w' hw => by simp [go_sem]) ?_
            simp only [Act.put, List.setIfInBounds_toArray, List.set_cons_zero, List.set_cons_succ]
            refine wpQ_run rfl (.bool true) (fun w' hw => by simp [go_sem]) ?_
            simp only [Act.put, List.setIfInBounds_toArray, List.set_cons_zero, List.set_cons_succ]
            refine wpQ_run rfl (.pointer (some ⟨w.heap.size, 1, none⟩)) (fun w' hw => by simp [go_sem]) ?_
            simp only [Act.put, List.setIfInBounds_toArray, List.set_cons_zero, List.set_cons_succ]
            refine wpQ_run rfl (.int .i64 f0) (fun w' hw => by have := (X.out.after hw).cell 1 rfl; simp [go_sem, this]) ?_
            simp only [Act.put, List.setIfInBounds_toArray, List.set_cons_zero, List.set_cons_succ]
            refine wpQ_run rfl (.pointer (some ⟨w.heap.size, 3, none⟩)) (fun w' hw => by simp [go_sem]) ?_
            simp only [Act.put, List.setIfInBounds_toArray, List.set_cons_zero, List.set_cons_succ]
            refine wpQ_run rfl (.int .i64 t0) (fun w' hw => by have := (X.out.after hw).cell 3 rfl; simp [go_sem, this]) ?_
            simp only [Act.put, List.setIfInBounds_toArray, List.set_cons_zero, List.set_cons_succ]
            refine wpQ_run rfl (.bool true) (fun w' hw => by simp [go_sem]; omega) ?_
            simp only [Act.put, List.setIfInBounds_toArray, List.set_cons_zero, List.set_cons_succ]
            refine wpQ_run rfl (.bool true) (fun w' hw => by simp [go_sem]) ?_
            simp only [Act.put, List.setIfInBounds_toArray, List.set_cons_zero, List.set_cons_succ]
            refine wpQ_run rfl (.bool true) (fun w' hw => by simp [go_sem]) ?_
            simp only [Act.put, List.setIfInBounds_toArray, List.set_cons_zero, List.set_cons_succ]
            refine wpQ_run rfl (.bool true) (fun w' hw => by simp [go_sem]) ?_
            simp only [Act.put, List.setIfInBounds_toArray, List.set_cons_zero, List.set_cons_succ]
            refine wpQ_run rfl (.bool true) (fun w' hw => by simp [go_sem]) ?_
            simp only [Act.put, List.setIfInBounds_toArray, List.set_cons_zero, List.set_cons_succ]
            refine wpQ_callB rfl 11 #[] (fun w' => by simp [go_sem]) (.bool true) (Nat.le_refl _) (fun w' hw => awake_any w' (HT.out.after (B.trans (hw.mono B.size)))) ?_
            simp only [Act.put, List.setIfInBounds_toArray, List.set_cons_zero, List.set_cons_succ]
            refine wpQ_run rfl (.bool true) (fun w' hw => by simp [go_sem]) ?_
            simp only [Act.put, List.setIfInBounds_toArray, List.set_cons_zero, List.set_cons_succ]
            refine wpQ_run rfl (.bool true) (fun w' hw => by simp [go_sem]) ?_
            simp only [Act.put, List.setIfInBounds_toArray, List.set_cons_zero, List.set_cons_succ]
            intro w82 hb82
            replace X := Lib.hid (X.out.after hb82)
            replace Y := Lib.hid (Y.out.after hb82)
            replace M := Lib.hid (M.out.after hb82)
            replace B := B.trans (hb82.mono B.size)
            clear hb82
            go_wp2_with fail
            go_ret
            exact ⟨rfl, B⟩
          case neg =>
            obtain rfl : ea = false := by rw [HEF.out, decide_eq_false hlt]; rfl
            go_upto_region 4 with fail
            refine wp_region_made w81.heap.size w81 rfl (by kernel_rfl) (Below.refl _ _) ?_
            refine wpQ_load_box rfl 23 _ rfl M.out (by rfl) M.out.lt Tryd.underlying23 rfl (by kernel_rfl) ?_
            simp only [Act.put, List.setIfInBounds_toArray, List.set_cons_zero, List.set_cons_succ]
            refine wpQ_callB rfl 19 #[.agg #[.bool mp, .int .i64 mf, .bool mq, .int .i64 mt]] (fun w' => by simp [go_sem]) (.bool true) (Nat.le_refl _) (fun w' hw => CE.out w') ?_
            simp only [Act.put, List.setIfInBounds_toArray, List.set_cons_zero, List.set_cons_succ]
            refine wpQ_run rfl (.bool false) (fun w' hw => by simp [go_sem]) ?_
            simp only [Act.put, List.setIfInBounds_toArray, List.set_cons_zero, List.set_cons_succ]
            refine wpQ_run rfl (.bool false) (fun w' hw => by simp [go_sem]) ?_
            simp only [Act.put, List.setIfInBounds_toArray, List.set_cons_zero, List.set_cons_succ]
            refine wpQ_load_box rfl 23 _ rfl M.out (by rfl) M.out.lt Tryd.underlying23 rfl (by kernel_rfl) ?_
            simp only [Act.put, List.setIfInBounds_toArray, List.set_cons_zero, List.set_cons_succ]
            refine wpQ_run rfl (.int .i64 j) (fun w' hw => by simp [go_sem]) ?_
            simp only [Act.put, List.setIfInBounds_toArray, List.set_cons_zero, List.set_cons_succ]
            refine wpQ_callB rfl 17 #[.agg #[.bool mp, .int .i64 mf, .bool mq, .int .i64 mt], .int .i64 j] (fun w' => by simp [go_sem]) (.bool false) (Nat.le_refl _) (fun w' hw => CB.out w') ?_
            simp only [Act.put, List.setIfInBounds_toArray, List.set_cons_zero, List.set_cons_succ]
            refine wpQ_run rfl (.bool true) (fun w' hw => by simp [go_sem]) ?_
            simp only [Act.put, List.setIfInBounds_toArray, List.set_cons_zero, List.set_cons_succ]
            refine wpQ_run rfl (.bool true) (fun w' hw => by simp [go_sem]) ?_
            simp only [Act.put, List.setIfInBounds_toArray, List.set_cons_zero, List.set_cons_succ]
            refine wpQ_run rfl (.bool true) (fun w' hw => by simp [go_sem]) ?_
            simp only [Act.put, List.setIfInBounds_toArray, List.set_cons_zero, List.set_cons_succ]
            refine wpQ_load_box rfl 23 _ rfl X.out (by rfl) X.out.lt Tryd.underlying23 rfl (by kernel_rfl) ?_
            simp only [Act.put, List.setIfInBounds_toArray, List.set_cons_zero, List.set_cons_succ]
            refine wpQ_callB rfl 19 #[.agg #[.bool true, .int .i64 f0, .bool true, .int .i64 t0]] (fun w' => by simp [go_sem]) (.bool false) (Nat.le_refl _) (fun w' hw => CF.out w') ?_
            simp only [Act.put, List.setIfInBounds_toArray, List.set_cons_zero, List.set_cons_succ]
            refine wpQ_run rfl (.pointer (some ⟨w.heap.size, 0, none⟩)) (fun w' hw => by simp [go_sem]) ?_
            simp only [Act.put, List.setIfInBounds_toArray, List.set_cons_zero, List.set_cons_succ]
            refine wpQ_run rfl (.bool true) (fun w' hw => by have := (X.out.after hw).cell 0 rfl; simp [go_sem, this]) ?_
            simp only [Act.put, List.setIfInBounds_toArray, List.set_cons_zero, List.set_cons_succ]
            refine wpQ_run rfl (.bool true) (fun w' hw => by simp [go_sem]) ?_
            simp only [Act.put, List.setIfInBounds_toArray, List.set_cons_zero, List.set_cons_succ]
            refine wpQ_run rfl (.pointer (some ⟨w.heap.size, 2, none⟩)) (fun w' hw => by simp [go_sem]) ?_
            simp only [Act.put, List.setIfInBounds_toArray, List.set_cons_zero, List.set_cons_succ]
            refine wpQ_run rfl (.bool true) (fun w' hw => by have := (X.out.after hw).cell 2 rfl; simp [go_sem, this]) ?_
            simp only [Act.put, List.setIfInBounds_toArray, List.set_cons_zero, List.set_cons_succ]
            refine wpQ_run rfl (.bool true) (fun w' hw => by simp [go_sem]) ?_
            simp only [Act.put, List.setIfInBounds_toArray, List.set_cons_zero, List.set_cons_succ]
            refine wpQ_run rfl (.bool true) (fun w' hw => by simp [go_sem]) ?_
            simp only [Act.put, List.setIfInBounds_toArray, List.set_cons_zero, List.set_cons_succ]
            refine wpQ_run rfl (.pointer (some ⟨w.heap.size, 1, none⟩)) (fun w' hw => by simp [go_sem]) ?_
            simp only [Act.put, List.setIfInBounds_toArray, List.set_cons_zero, List.set_cons_succ]
            refine wpQ_run rfl (.int .i64 f0) (fun w' hw => by have := (X.out.after hw).cell 1 rfl; simp [go_sem, this]) ?_
            simp only [Act.put, List.setIfInBounds_toArray, List.set_cons_zero, List.set_cons_succ]
            refine wpQ_run rfl (.pointer (some ⟨w.heap.size, 3, none⟩)) (fun w' hw => by simp [go_sem]) ?_
            simp only [Act.put, List.setIfInBounds_toArray, List.set_cons_zero, List.set_cons_succ]
            refine wpQ_run rfl (.int .i64 t0) (fun w' hw => by have := (X.out.after hw).cell 3 rfl; simp [go_sem, this]) ?_
            simp only [Act.put, List.setIfInBounds_toArray, List.set_cons_zero, List.set_cons_succ]
            refine wpQ_run rfl (.bool false) (fun w' hw => by simp [go_sem]; omega) ?_
            simp only [Act.put, List.setIfInBounds_toArray, List.set_cons_zero, List.set_cons_succ]
            refine wpQ_run rfl (.bool false) (fun w' hw => by simp [go_sem]) ?_
            simp only [Act.put, List.setIfInBounds_toArray, List.set_cons_zero, List.set_cons_succ]
            refine wpQ_run rfl (.bool true) (fun w' hw => by simp [go_sem]) ?_
            simp only [Act.put, List.setIfInBounds_toArray, List.set_cons_zero, List.set_cons_succ]
            refine wpQ_run rfl (.bool true) (fun w' hw => by simp [go_sem]) ?_
            simp only [Act.put, List.setIfInBounds_toArray, List.set_cons_zero, List.set_cons_succ]
            refine wpQ_run rfl (.bool true) (fun w' hw => by simp [go_sem]) ?_
            simp only [Act.put, List.setIfInBounds_toArray, List.set_cons_zero, List.set_cons_succ]
            refine wpQ_callB rfl 11 #[] (fun w' => by simp [go_sem]) (.bool true) (Nat.le_refl _) (fun w' hw => awake_any w' (HT.out.after (B.trans (hw.mono B.size)))) ?_
            simp only [Act.put, List.setIfInBounds_toArray, List.set_cons_zero, List.set_cons_succ]
            refine wpQ_run rfl (.bool true) (fun w' hw => by simp [go_sem]) ?_
            simp only [Act.put, List.setIfInBounds_toArray, List.set_cons_zero, List.set_cons_succ]
            refine wpQ_run rfl (.bool true) (fun w' hw => by simp [go_sem]) ?_
            simp only [Act.put, List.setIfInBounds_toArray, List.set_cons_zero, List.set_cons_succ]
            intro w82 hb82
            replace X := Lib.hid (X.out.after hb82)
            replace Y := Lib.hid (Y.out.after hb82)
            replace M := Lib.hid (M.out.after hb82)
            replace B := B.trans (hb82.mono B.size)
            clear hb82
            go_wp2_with fail
            go_ret
            exact ⟨rfl, B⟩

end Go.Proofs.YtigopfeamjhdpaaDoor

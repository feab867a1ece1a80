/- Windows: the program's Meet and Empty. -/
import Derived.Test.YtigopfeamjhdpaaDoorWnG12
namespace Go.Proofs.YtigopfeamjhdpaaDoor
open Go.RowKit
set_option linter.unusedSimpArgs false
set_option linter.unusedVariables false

abbrev W4.cells (x : W4) : Array Value := #[.bool x.p, .int .i64 x.f, .bool x.q, .int .i64 x.t]
def W4.meet (a b : W4) : W4 := ⟨if a.p then true else b.p, if a.p then (if b.p then max a.f b.f else a.f) else b.f, if a.q then true else b.q, if a.q then (if b.q then min a.t b.t else a.t) else b.t⟩
theorem wp_store_bool {P : Program} {Q : Exit → Act → World → Prop} {o : Oper} {a : Act} {w : World} {K : Act → World → Prop} (ty : TypeId) (x y : Operand) (ho : o.op = .store ty x y)
    {b off : Nat} {v : Bool} (hx : a.eval x = .pointer (some ⟨b, off, none⟩)) (hy : a.eval y = .bool v) {u : Value} (hc : w.cell? ⟨b, off, none⟩ = some u) (hf : w.frozen? ⟨b, off, none⟩ = false) (hz : ∀ w, (sizeOf ty).run P w = .ok 1 w)
    (h : K (a.put o.dst undef) (w.setCell ⟨b, off, none⟩ (.bool v))) : o.wp P a w K Q := by
  unfold Oper.wp execOp
  simp only [ho, hx, hy]
  simp [go_sem, hz, hc, hf]
  exact h
theorem wp_store_i64 {P : Program} {Q : Exit → Act → World → Prop} {o : Oper} {a : Act} {w : World} {K : Act → World → Prop} (ty : TypeId) (x y : Operand) (ho : o.op = .store ty x y)
    {b off : Nat} {v : Int} (hx : a.eval x = .pointer (some ⟨b, off, none⟩)) (hy : a.eval y = .int .i64 v) {u : Value} (hc : w.cell? ⟨b, off, none⟩ = some u) (hf : w.frozen? ⟨b, off, none⟩ = false) (hz : ∀ w, (sizeOf ty).run P w = .ok 1 w)
    (h : K (a.put o.dst undef) (w.setCell ⟨b, off, none⟩ (.int .i64 v))) : o.wp P a w K Q := by
  unfold Oper.wp execOp
  simp only [ho, hx, hy]
  simp [go_sem, hz, hc, hf]
  exact h

set_option maxHeartbeats 32000000 in
set_option maxRecDepth 100000 in
theorem winMeet_any (p : Bool) (f : Int) (q : Bool) (t : Int) (p2 : Bool) (f2 : Int) (q2 : Bool) (t2 : Int) (w : World) : Calls Tryd.prog 16 #[.agg #[.bool p, .int .i64 f, .bool q, .int .i64 t], .agg #[.bool p2, .int .i64 f2, .bool q2, .int .i64 t2]] w fun e w' => e = .returned (.agg (W4.meet ⟨p, f, q, t⟩ ⟨p2, f2, q2, t2⟩).cells) ∧ Below w.heap.size w w' := by
  have B : Below w.heap.size w (((w.alloc (.cells #[.bool p, .int .i64 f, .bool q, .int .i64 t] 23)).alloc (.cells #[.bool p2, .int .i64 f2, .bool q2, .int .i64 t2] 23)).alloc (.cells #[.bool false, .int .i64 0, .bool false, .int .i64 0] 23)) := (((Below.refl _ _).alloc (Nat.le_refl _) _).alloc (by simp) _).alloc (by simp; omega) _
  have X : Hid (Box (((w.alloc (.cells #[.bool p, .int .i64 f, .bool q, .int .i64 t] 23)).alloc (.cells #[.bool p2, .int .i64 f2, .bool q2, .int .i64 t2] 23)).alloc (.cells #[.bool false, .int .i64 0, .bool false, .int .i64 0] 23)) w.heap.size 23 #[.bool p, .int .i64 f, .bool q, .int .i64 t]) := Lib.hid (((Box.new _ _ _).alloc _).alloc _)
  have Y : Hid (Box (((w.alloc (.cells #[.bool p, .int .i64 f, .bool q, .int .i64 t] 23)).alloc (.cells #[.bool p2, .int .i64 f2, .bool q2, .int .i64 t2] 23)).alloc (.cells #[.bool false, .int .i64 0, .bool false, .int .i64 0] 23)) (w.heap.size + 1) 23 #[.bool p2, .int .i64 f2, .bool q2, .int .i64 t2]) := Lib.hid (by
    have := (Box.new (w.alloc (.cells #[.bool p, .int .i64 f, .bool q, .int .i64 t] 23)) 23 #[.bool p2, .int .i64 f2, .bool q2, .int .i64 t2]).alloc (.cells #[.bool false, .int .i64 0, .bool false, .int .i64 0] 23)
    simpa using this)
  have R : Hid (Box (((w.alloc (.cells #[.bool p, .int .i64 f, .bool q, .int .i64 t] 23)).alloc (.cells #[.bool p2, .int .i64 f2, .bool q2, .int .i64 t2] 23)).alloc (.cells #[.bool false, .int .i64 0, .bool false, .int .i64 0] 23)) (w.heap.size + 1 + 1) 23 #[.bool false, .int .i64 0, .bool false, .int .i64 0]) := Lib.hid (by
    have := Box.new ((w.alloc (.cells #[.bool p, .int .i64 f, .bool q, .int .i64 t] 23)).alloc (.cells #[.bool p2, .int .i64 f2, .bool q2, .int .i64 t2] 23)) 23 #[.bool false, .int .i64 0, .bool false, .int .i64 0]
    simpa using this)
  go_enter Tryd.func16, Tryd.ntmps16
  go_upto_region 1 with fail
  change Code.wp _ _ _ _ (((w.alloc (.cells #[.bool p, .int .i64 f, .bool q, .int .i64 t] 23)).alloc (.cells #[.bool p2, .int .i64 f2, .bool q2, .int .i64 t2] 23)).alloc (.cells #[.bool false, .int .i64 0, .bool false, .int .i64 0] 23))
  generalize (((w.alloc (.cells #[.bool p, .int .i64 f, .bool q, .int .i64 t] 23)).alloc (.cells #[.bool p2, .int .i64 f2, .bool q2, .int .i64 t2] 23)).alloc (.cells #[.bool false, .int .i64 0, .bool false, .int .i64 0] 23)) = u0 at *
  cases p with
  | false =>
    cases p2 with
    | false =>
      cases q with
      | false =>
        cases q2 with
        | false =>
          have x0 := X.out.cell 0 rfl
          have x1 := X.out.cell 1 rfl
          have x2 := X.out.cell 2 rfl
          have x3 := X.out.cell 3 rfl
          have y0 := Y.out.cell 0 rfl
          have y1 := Y.out.cell 1 rfl
          have y2 := Y.out.cell 2 rfl
          have y3 := Y.out.cell 3 rfl
          have fx0 := X.out.frozen 0
          have fx1 := X.out.frozen 1
          have fx2 := X.out.frozen 2
          have fx3 := X.out.frozen 3
          go_upto_region 2 with fail
          clear x0 x1 x2 x3 y0 y1 y2 y3 fx0 fx1 fx2 fx3
          have hKS : Keeps (fun w' => Box w' (w.heap.size + 1) 23 #[.bool false, .int .i64 f2, .bool false, .int .i64 t2]) := fun w w' h b => h.after b
          refine wp_region_U (w := u0) (fun w' => Box w' (w.heap.size + 1) 23 #[.bool false, .int .i64 f2, .bool false, .int .i64 t2]) rfl Y.out.drew ?_
          refine wpU_val 0 hKS rfl (by kernel_rfl) (by kernel_rfl) (by kernel_rfl) rfl (fun _ _ _ _ h => h) (.pointer (some ⟨w.heap.size + 1, 0, none⟩)) (fun w' h => by simp [go_sem]) ?_
          simp only [Act.put, List.setIfInBounds_toArray, List.set_cons_zero, List.set_cons_succ]
          refine wpU_val 1 hKS rfl (by kernel_rfl) (by kernel_rfl) (by kernel_rfl) rfl (fun _ _ _ _ h => h) (.bool false) (fun w' h => by simp [go_sem, h.cell 0 rfl]) ?_
          simp only [Act.put, List.setIfInBounds_toArray, List.set_cons_zero, List.set_cons_succ]
          refine wpU_val 2 hKS rfl (by kernel_rfl) (by kernel_rfl) (by kernel_rfl) rfl (fun _ _ _ _ h => h) (.pointer (some ⟨w.heap.size + 1, 1, none⟩)) (fun w' h => by simp [go_sem]) ?_
          simp only [Act.put, List.setIfInBounds_toArray, List.set_cons_zero, List.set_cons_succ]
          refine wpU_val 3 hKS rfl (by kernel_rfl) (by kernel_rfl) (by kernel_rfl) rfl (fun _ _ _ _ h => h) (.int .i64 f2) (fun w' h => by simp [go_sem, h.cell 1 rfl]) ?_
          simp only [Act.put, List.setIfInBounds_toArray, List.set_cons_zero, List.set_cons_succ]
          refine wpU_val 4 hKS rfl (by kernel_rfl) (by kernel_rfl) (by kernel_rfl) rfl (fun _ _ _ _ h => h) (.pointer (some ⟨w.heap.size, 0, none⟩)) (fun w' h => by simp [go_sem]) ?_
          simp only [Act.put, List.setIfInBounds_toArray, List.set_cons_zero, List.set_cons_succ]
          refine wpU_one 5 rfl (by kernel_rfl) rfl ?_
          intro w5 b5 s5
          have b5' : Below u0.heap.size u0 w5 := (Below.refl _ u0).drew.trans b5
          have X5 := X.out.after b5'
          refine wp_store_bool 4 _ _ rfl rfl rfl (X5.cell 0 rfl) (X5.frozen 0) (fun w => by simp [go_sem]) ?_
          have X6 := X5.set 0 (.bool false)
          have e6 : But (fun k => k = w.heap.size) w5 (w5.setCell ⟨w.heap.size, 0, none⟩ (.bool false)) := (But.refl (fun k => k = w.heap.size) w5).setCell (p := ⟨w.heap.size, 0, none⟩) (.inl rfl) _
          refine ⟨e6.box s5 (by omega), ?_⟩
          simp only [Act.put, List.setIfInBounds_toArray, List.set_cons_zero, List.set_cons_succ]
          generalize (w5.setCell ⟨w.heap.size, 0, none⟩ (.bool false)) = w6 at *
          refine wpU_val 6 hKS rfl (by kernel_rfl) (by kernel_rfl) (by kernel_rfl) rfl (fun _ _ _ _ h => h) (.pointer (some ⟨w.heap.size, 1, none⟩)) (fun w' h => by simp [go_sem]) ?_
          simp only [Act.put, List.setIfInBounds_toArray, List.set_cons_zero, List.set_cons_succ]
          refine wpU_one 7 rfl (by kernel_rfl) rfl ?_
          intro w7 b7 s7
          have X7 := X6.after b7
          refine wp_store_i64 2 _ _ rfl rfl rfl (X7.cell 1 rfl) (X7.frozen 1) (fun w => by simp [go_sem]) ?_
          have X8 := X7.set 1 (.int .i64 f2)
          have e8 : But (fun k => k = w.heap.size) w7 (w7.setCell ⟨w.heap.size, 1, none⟩ (.int .i64 f2)) := (But.refl (fun k => k = w.heap.size) w7).setCell (p := ⟨w.heap.size, 1, none⟩) (.inl rfl) _
          refine ⟨e8.box s7 (by omega), ?_⟩
          simp only [Act.put, List.setIfInBounds_toArray, List.set_cons_zero, List.set_cons_succ]
          generalize (w7.setCell ⟨w.heap.size, 1, none⟩ (.int .i64 f2)) = w8 at *
          refine wpU_done (by kernel_rfl) ?_
          intro u1 b9 s9
          have E9 : But (fun k => k = w.heap.size) u0 u1 := (((But.ofBelow b5').trans e6 (fun k hk => .inl hk)).trans ((But.ofBelow (S := fun _ => False) b7)) (fun _ h => h.elim)).trans (e8.trans (But.ofBelow (S := fun _ => False) b9) (fun _ h => h.elim)) (fun k hk => .inl hk)
          replace X := Lib.hid (X8.after b9)
          replace Y := Lib.hid s9
          replace R := Lib.hid (E9.box R.out (by omega))
          replace B := E9.after B B.size (fun k hk => by omega)
          clear hKS b5 b5' s5 X5 X6 e6 b7 s7 X7 X8 e8 b9 s9 E9
          have x0 := X.out.cell 0 rfl
          have x1 := X.out.cell 1 rfl
          have x2 := X.out.cell 2 rfl
          have x3 := X.out.cell 3 rfl
          have y0 := Y.out.cell 0 rfl
          have y1 := Y.out.cell 1 rfl
          have y2 := Y.out.cell 2 rfl
          have y3 := Y.out.cell 3 rfl
          have fx0 := X.out.frozen 0
          have fx1 := X.out.frozen 1
          have fx2 := X.out.frozen 2
          have fx3 := X.out.frozen 3
          go_upto_region 5 with fail
          go_upto_region 6 with fail
          clear x0 x1 x2 x3 y0 y1 y2 y3 fx0 fx1 fx2 fx3
          have hKS : Keeps (fun w' => Box w' (w.heap.size + 1) 23 #[.bool false, .int .i64 f2, .bool false, .int .i64 t2]) := fun w w' h b => h.after b
          refine wp_region_U (w := u1) (fun w' => Box w' (w.heap.size + 1) 23 #[.bool false, .int .i64 f2, .bool false, .int .i64 t2]) rfl Y.out.drew ?_
          refine wpU_val 0 hKS rfl (by kernel_rfl) (by kernel_rfl) (by kernel_rfl) rfl (fun _ _ _ _ h => h) (.pointer (some ⟨w.heap.size + 1, 2, none⟩)) (fun w' h => by simp [go_sem]) ?_
          simp only [Act.put, List.setIfInBounds_toArray, List.set_cons_zero, List.set_cons_succ]
          refine wpU_val 1 hKS rfl (by kernel_rfl) (by kernel_rfl) (by kernel_rfl) rfl (fun _ _ _ _ h => h) (.bool false) (fun w' h => by simp [go_sem, h.cell 2 rfl]) ?_
          simp only [Act.put, List.setIfInBounds_toArray, List.set_cons_zero, List.set_cons_succ]
          refine wpU_val 2 hKS rfl (by kernel_rfl) (by kernel_rfl) (by kernel_rfl) rfl (fun _ _ _ _ h => h) (.pointer (some ⟨w.heap.size + 1, 3, none⟩)) (fun w' h => by simp [go_sem]) ?_
          simp only [Act.put, List.setIfInBounds_toArray, List.set_cons_zero, List.set_cons_succ]
          refine wpU_val 3 hKS rfl (by kernel_rfl) (by kernel_rfl) (by kernel_rfl) rfl (fun _ _ _ _ h => h) (.int .i64 t2) (fun w' h => by simp [go_sem, h.cell 3 rfl]) ?_
          simp only [Act.put, List.setIfInBounds_toArray, List.set_cons_zero, List.set_cons_succ]
          refine wpU_val 4 hKS rfl (by kernel_rfl) (by kernel_rfl) (by kernel_rfl) rfl (fun _ _ _ _ h => h) (.pointer (some ⟨w.heap.size, 2, none⟩)) (fun w' h => by simp [go_sem]) ?_
          simp only [Act.put, List.setIfInBounds_toArray, List.set_cons_zero, List.set_cons_succ]
          refine wpU_one 5 rfl (by kernel_rfl) rfl ?_
          intro w5 b5 s5
          have b5' : Below u1.heap.size u1 w5 := (Below.refl _ u1).drew.trans b5
          have X5 := X.out.after b5'
          refine wp_store_bool 4 _ _ rfl rfl rfl (X5.cell 2 rfl) (X5.frozen 2) (fun w => by simp [go_sem]) ?_
          have X6 := X5.set 2 (.bool false)
          have e6 : But (fun k => k = w.heap.size) w5 (w5.setCell ⟨w.heap.size, 2, none⟩ (.bool false)) := (But.refl (fun k => k = w.heap.size) w5).setCell (p := ⟨w.heap.size, 2, none⟩) (.inl rfl) _
          refine ⟨e6.box s5 (by omega), ?_⟩
          simp only [Act.put, List.setIfInBounds_toArray, List.set_cons_zero, List.set_cons_succ]
          generalize (w5.setCell ⟨w.heap.size, 2, none⟩ (.bool false)) = w6 at *
          refine wpU_val 6 hKS rfl (by kernel_rfl) (by kernel_rfl) (by kernel_rfl) rfl (fun _ _ _ _ h => h) (.pointer (some ⟨w.heap.size, 3, none⟩)) (fun w' h => by simp [go_sem]) ?_
          simp only [Act.put, List.setIfInBounds_toArray, List.set_cons_zero, List.set_cons_succ]
          refine wpU_one 7 rfl (by kernel_rfl) rfl ?_
          intro w7 b7 s7
          have X7 := X6.after b7
          refine wp_store_i64 2 _ _ rfl rfl rfl (X7.cell 3 rfl) (X7.frozen 3) (fun w => by simp [go_sem]) ?_
          have X8 := X7.set 3 (.int .i64 t2)
          have e8 : But (fun k => k = w.heap.size) w7 (w7.setCell ⟨w.heap.size, 3, none⟩ (.int .i64 t2)) := (But.refl (fun k => k = w.heap.size) w7).setCell (p := ⟨w.heap.size, 3, none⟩) (.inl rfl) _
          refine ⟨e8.box s7 (by omega), ?_⟩
          simp only [Act.put, List.setIfInBounds_toArray, List.set_cons_zero, List.set_cons_succ]
          generalize (w7.setCell ⟨w.heap.size, 3, none⟩ (.int .i64 t2)) = w8 at *
          refine wpU_done (by kernel_rfl) ?_
          intro u2 b9 s9
          have E9 : But (fun k => k = w.heap.size) u1 u2 := (((But.ofBelow b5').trans e6 (fun k hk => .inl hk)).trans ((But.ofBelow (S := fun _ => False) b7)) (fun _ h => h.elim)).trans (e8.trans (But.ofBelow (S := fun _ => False) b9) (fun _ h => h.elim)) (fun k hk => .inl hk)
          replace X := Lib.hid (X8.after b9)
          replace Y := Lib.hid s9
          replace R := Lib.hid (E9.box R.out (by omega))
          replace B := E9.after B B.size (fun k hk => by omega)
          clear hKS b5 b5' s5 X5 X6 e6 b7 s7 X7 X8 e8 b9 s9 E9
          go_wp2_with first | (refine wpList_load_box rfl 23 _ rfl X.out (by rfl) Tryd.underlying23 rfl (by kernel_rfl) ?_) | (refine wpList_store_box (cells := #[.bool false, .int .i64 f2, .bool false, .int .i64 t2]) rfl 23 _ _ rfl R.out (by rfl) (by rfl) rfl (by kernel_rfl) (by simp [Value.oneCell']) ?_; intro u9 X9 st9)
          exact bodyPost_ret (v := .agg #[.bool false, .int .i64 f2, .bool false, .int .i64 t2]) (box_result rfl _ _ (by rfl) X9 Tryd.underlying23 rfl (by kernel_rfl)) rfl ⟨rfl, st9.below w.heap.size w (by omega) B⟩
        | true =>
          have x0 := X.out.cell 0 rfl
          have x1 := X.out.cell 1 rfl
          have x2 := X.out.cell 2 rfl
          have x3 := X.out.cell 3 rfl
          have y0 := Y.out.cell 0 rfl
          have y1 := Y.out.cell 1 rfl
          have y2 := Y.out.cell 2 rfl
          have y3 := Y.out.cell 3 rfl
          have fx0 := X.out.frozen 0
          have fx1 := X.out.frozen 1
          have fx2 := X.out.frozen 2
          have fx3 := X.out.frozen 3
          go_upto_region 2 with fail
          clear x0 x1 x2 x3 y0 y1 y2 y3 fx0 fx1 fx2 fx3
          have hKS : Keeps (fun w' => Box w' (w.heap.size + 1) 23 #[.bool false, .int .i64 f2, .bool true, .int .i64 t2]) := fun w w' h b => h.after b
          refine wp_region_U (w := u0) (fun w' => Box w' (w.heap.size + 1) 23 #[.bool false, .int .i64 f2, .bool true, .int .i64 t2]) rfl Y.out.drew ?_
          refine wpU_val 0 hKS rfl (by kernel_rfl) (by kernel_rfl) (by kernel_rfl) rfl (fun _ _ _ _ h => h) (.pointer (some ⟨w.heap.size + 1, 0, none⟩)) (fun w' h => by simp [go_sem]) ?_
          simp only [Act.put, List.setIfInBounds_toArray, List.set_cons_zero, List.set_cons_succ]
          refine wpU_val 1 hKS rfl (by kernel_rfl) (by kernel_rfl) (by kernel_rfl) rfl (fun _ _ _ _ h => h) (.bool false) (fun w' h => by simp [go_sem, h.cell 0 rfl]) ?_
          simp only [Act.put, List.setIfInBounds_toArray, List.set_cons_zero, List.set_cons_succ]
          refine wpU_val 2 hKS rfl (by kernel_rfl) (by kernel_rfl) (by kernel_rfl) rfl (fun _ _ _ _ h => h) (.pointer (some ⟨w.heap.size + 1, 1, none⟩)) (fun w' h => by simp [go_sem]) ?_
          simp only [Act.put, List.setIfInBounds_toArray, List.set_cons_zero, List.set_cons_succ]
          refine wpU_val 3 hKS rfl (by kernel_rfl) (by kernel_rfl) (by kernel_rfl) rfl (fun _ _ _ _ h => h) (.int .i64 f2) (fun w' h => by simp [go_sem, h.cell 1 rfl]) ?_
          simp only [Act.put, List.setIfInBounds_toArray, List.set_cons_zero, List.set_cons_succ]
          refine wpU_val 4 hKS rfl (by kernel_rfl) (by kernel_rfl) (by kernel_rfl) rfl (fun _ _ _ _ h => h) (.pointer (some ⟨w.heap.size, 0, none⟩)) (fun w' h => by simp [go_sem]) ?_
          simp only [Act.put, List.setIfInBounds_toArray, List.set_cons_zero, List.set_cons_succ]
          refine wpU_one 5 rfl (by kernel_rfl) rfl ?_
          intro w5 b5 s5
          have b5' : Below u0.heap.size u0 w5 := (Below.refl _ u0).drew.trans b5
          have X5 := X.out.after b5'
          refine wp_store_bool 4 _ _ rfl rfl rfl (X5.cell 0 rfl) (X5.frozen 0) (fun w => by simp [go_sem]) ?_
          have X6 := X5.set 0 (.bool false)
          have e6 : But (fun k => k = w.heap.size) w5 (w5.setCell ⟨w.heap.size, 0, none⟩ (.bool false)) := (But.refl (fun k => k = w.heap.size) w5).setCell (p := ⟨w.heap.size, 0, none⟩) (.inl rfl) _
          refine ⟨e6.box s5 (by omega), ?_⟩
          simp only [Act.put, List.setIfInBounds_toArray, List.set_cons_zero, List.set_cons_succ]
          generalize (w5.setCell ⟨w.heap.size, 0, none⟩ (.bool false)) = w6 at *
          refine wpU_val 6 hKS rfl (by kernel_rfl) (by kernel_rfl) (by kernel_rfl) rfl (fun _ _ _ _ h => h) (.pointer (some ⟨w.heap.size, 1, none⟩)) (fun w' h => by simp [go_sem]) ?_
          simp only [Act.put, List.setIfInBounds_toArray, List.set_cons_zero, List.set_cons_succ]
          refine wpU_one 7 rfl (by kernel_rfl) rfl ?_
          intro w7 b7 s7
          have X7 := X6.after b7
          refine wp_store_i64 2 _ _ rfl rfl rfl (X7.cell 1 rfl) (X7.frozen 1) (fun w => by simp [go_sem]) ?_
          have X8 := X7.set 1 (.int .i64 f2)
          have e8 : But (fun k => k = w.heap.size) w7 (w7.setCell ⟨w.heap.size, 1, none⟩ (.int .i64 f2)) := (But.refl (fun k => k = w.heap.size) w7).setCell (p := ⟨w.heap.size, 1, none⟩) (.inl rfl) _
          refine ⟨e8.box s7 (by omega), ?_⟩
          simp only [Act.put, List.setIfInBounds_toArray, List.set_cons_zero, List.set_cons_succ]
          generalize (w7.setCell ⟨w.heap.size, 1, none⟩ (.int .i64 f2)) = w8 at *
          refine wpU_done (by kernel_rfl) ?_
          intro u1 b9 s9
          have E9 : But (fun k => k = w.heap.size) u0 u1 := (((But.ofBelow b5').trans e6 (fun k hk => .inl hk)).trans ((But.ofBelow (S := fun _ => False) b7)) (fun _ h => h.elim)).trans (e8.trans (But.ofBelow (S := fun _ => False) b9) (fun _ h => h.elim)) (fun k hk => .inl hk)
          replace X := Lib.hid (X8.after b9)
          replace Y := Lib.hid s9
          replace R := Lib.hid (E9.box R.out (by omega))
          replace B := E9.after B B.size (fun k hk => by omega)
          clear hKS b5 b5' s5 X5 X6 e6 b7 s7 X7 X8 e8 b9 s9 E9
          have x0 := X.out.cell 0 rfl
          have x1 := X.out.cell 1 rfl
          have x2 := X.out.cell 2 rfl
          have x3 := X.out.cell 3 rfl
          have y0 := Y.out.cell 0 rfl
          have y1 := Y.out.cell 1 rfl
          have y2 := Y.out.cell 2 rfl
          have y3 := Y.out.cell 3 rfl
          have fx0 := X.out.frozen 0
          have fx1 := X.out.frozen 1
          have fx2 := X.out.frozen 2
          have fx3 := X.out.frozen 3
          go_upto_region 5 with fail
          go_upto_region 6 with fail
          clear x0 x1 x2 x3 y0 y1 y2 y3 fx0 fx1 fx2 fx3
          have hKS : Keeps (fun w' => Box w' (w.heap.size + 1) 23 #[.bool false, .int .i64 f2, .bool true, .int .i64 t2]) := fun w w' h b => h.after b
          refine wp_region_U (w := u1) (fun w' => Box w' (w.heap.size + 1) 23 #[.bool false, .int .i64 f2, .bool true, .int .i64 t2]) rfl Y.out.drew ?_
          refine wpU_val 0 hKS rfl (by kernel_rfl) (by kernel_rfl) (by kernel_rfl) rfl (fun _ _ _ _ h => h) (.pointer (some ⟨w.heap.size + 1, 2, none⟩)) (fun w' h => by simp [go_sem]) ?_
          simp only [Act.put, List.setIfInBounds_toArray, List.set_cons_zero, List.set_cons_succ]
          refine wpU_val 1 hKS rfl (by kernel_rfl) (by kernel_rfl) (by kernel_rfl) rfl (fun _ _ _ _ h => h) (.bool true) (fun w' h => by simp [go_sem, h.cell 2 rfl]) ?_
          simp only [Act.put, List.setIfInBounds_toArray, List.set_cons_zero, List.set_cons_succ]
          refine wpU_val 2 hKS rfl (by kernel_rfl) (by kernel_rfl) (by kernel_rfl) rfl (fun _ _ _ _ h => h) (.pointer (some ⟨w.heap.size + 1, 3, none⟩)) (fun w' h => by simp [go_sem]) ?_
          simp only [Act.put, List.setIfInBounds_toArray, List.set_cons_zero, List.set_cons_succ]
          refine wpU_val 3 hKS rfl (by kernel_rfl) (by kernel_rfl) (by kernel_rfl) rfl (fun _ _ _ _ h => h) (.int .i64 t2) (fun w' h => by simp [go_sem, h.cell 3 rfl]) ?_
          simp only [Act.put, List.setIfInBounds_toArray, List.set_cons_zero, List.set_cons_succ]
          refine wpU_val 4 hKS rfl (by kernel_rfl) (by kernel_rfl) (by kernel_rfl) rfl (fun _ _ _ _ h => h) (.pointer (some ⟨w.heap.size, 2, none⟩)) (fun w' h => by simp [go_sem]) ?_
          simp only [Act.put, List.setIfInBounds_toArray, List.set_cons_zero, List.set_cons_succ]
          refine wpU_one 5 rfl (by kernel_rfl) rfl ?_
          intro w5 b5 s5
          have b5' : Below u1.heap.size u1 w5 := (Below.refl _ u1).drew.trans b5
          have X5 := X.out.after b5'
          refine wp_store_bool 4 _ _ rfl rfl rfl (X5.cell 2 rfl) (X5.frozen 2) (fun w => by simp [go_sem]) ?_
          have X6 := X5.set 2 (.bool true)
          have e6 : But (fun k => k = w.heap.size) w5 (w5.setCell ⟨w.heap.size, 2, none⟩ (.bool true)) := (But.refl (fun k => k = w.heap.size) w5).setCell (p := ⟨w.heap.size, 2, none⟩) (.inl rfl) _
          refine ⟨e6.box s5 (by omega), ?_⟩
          simp only [Act.put, List.setIfInBounds_toArray, List.set_cons_zero, List.set_cons_succ]
          generalize (w5.setCell ⟨w.heap.size, 2, none⟩ (.bool true)) = w6 at *
          refine wpU_val 6 hKS rfl (by kernel_rfl) (by kernel_rfl) (by kernel_rfl) rfl (fun _ _ _ _ h => h) (.pointer (some ⟨w.heap.size, 3, none⟩)) (fun w' h => by simp [go_sem]) ?_
          simp only [Act.put, List.setIfInBounds_toArray, List.set_cons_zero, List.set_cons_succ]
          refine wpU_one 7 rfl (by kernel_rfl) rfl ?_
          intro w7 b7 s7
          have X7 := X6.after b7
          refine wp_store_i64 2 _ _ rfl rfl rfl (X7.cell 3 rfl) (X7.frozen 3) (fun w => by simp [go_sem]) ?_
          have X8 := X7.set 3 (.int .i64 t2)
          have e8 : But (fun k => k = w.heap.size) w7 (w7.setCell ⟨w.heap.size, 3, none⟩ (.int .i64 t2)) := (But.refl (fun k => k = w.heap.size) w7).setCell (p := ⟨w.heap.size, 3, none⟩) (.inl rfl) _
          refine ⟨e8.box s7 (by omega), ?_⟩
          simp only [Act.put, List.setIfInBounds_toArray, List.set_cons_zero, List.set_cons_succ]
          generalize (w7.setCell ⟨w.heap.size, 3, none⟩ (.int .i64 t2)) = w8 at *
          refine wpU_done (by kernel_rfl) ?_
          intro u2 b9 s9
          have E9 : But (fun k => k = w.heap.size) u1 u2 := (((But.ofBelow b5').trans e6 (fun k hk => .inl hk)).trans ((But.ofBelow (S := fun _ => False) b7)) (fun _ h => h.elim)).trans (e8.trans (But.ofBelow (S := fun _ => False) b9) (fun _ h => h.elim)) (fun k hk => .inl hk)
          replace X := Lib.hid (X8.after b9)
          replace Y := Lib.hid s9
          replace R := Lib.hid (E9.box R.out (by omega))
          replace B := E9.after B B.size (fun k hk => by omega)
          clear hKS b5 b5' s5 X5 X6 e6 b7 s7 X7 X8 e8 b9 s9 E9
          go_wp2_with first | (refine wpList_load_box rfl 23 _ rfl X.out (by rfl) Tryd.underlying23 rfl (by kernel_rfl) ?_) | (refine wpList_store_box (cells := #[.bool false, .int .i64 f2, .bool true, .int .i64 t2]) rfl 23 _ _ rfl R.out (by rfl) (by rfl) rfl (by kernel_rfl) (by simp [Value.oneCell']) ?_; intro u9 X9 st9)
          exact bodyPost_ret (v := .agg #[.bool false, .int .i64 f2, .bool true, .int .i64 t2]) (box_result rfl _ _ (by rfl) X9 Tryd.underlying23 rfl (by kernel_rfl)) rfl ⟨rfl, st9.below w.heap.size w (by omega) B⟩
      | true =>
        cases q2 with
        | false =>
          have x0 := X.out.cell 0 rfl
          have x1 := X.out.cell 1 rfl
          have x2 := X.out.cell 2 rfl
          have x3 := X.out.cell 3 rfl
          have y0 := Y.out.cell 0 rfl
          have y1 := Y.out.cell 1 rfl
          have y2 := Y.out.cell 2 rfl
          have y3 := Y.out.cell 3 rfl
          have fx0 := X.out.frozen 0
          have fx1 := X.out.frozen 1
          have fx2 := X.out.frozen 2
          have fx3 := X.out.frozen 3
          go_upto_region 2 with fail
          clear x0 x1 x2 x3 y0 y1 y2 y3 fx0 fx1 fx2 fx3
          have hKS : Keeps (fun w' => Box w' (w.heap.size + 1) 23 #[.bool false, .int .i64 f2, .bool false, .int .i64 t2]) := fun w w' h b => h.after b
          refine wp_region_U (w := u0) (fun w' => Box w' (w.heap.size + 1) 23 #[.bool false, .int .i64 f2, .bool false, .int .i64 t2]) rfl Y.out.drew ?_
          refine wpU_val 0 hKS rfl (by kernel_rfl) (by kernel_rfl) (by kernel_rfl) rfl (fun _ _ _ _ h => h) (.pointer (some ⟨w.heap.size + 1, 0, none⟩)) (fun w' h => by simp [go_sem]) ?_
          simp only [Act.put, List.setIfInBounds_toArray, List.set_cons_zero, List.set_cons_succ]
          refine wpU_val 1 hKS rfl (by kernel_rfl) (by kernel_rfl) (by kernel_rfl) rfl (fun _ _ _ _ h => h) (.bool false) (fun w' h => by simp [go_sem, h.cell 0 rfl]) ?_
          simp only [Act.put, List.setIfInBounds_toArray, List.set_cons_zero, List.set_cons_succ]
          refine wpU_val 2 hKS rfl (by kernel_rfl) (by kernel_rfl) (by kernel_rfl) rfl (fun _ _ _ _ h => h) (.pointer (some ⟨w.heap.size + 1, 1, none⟩)) (fun w' h => by simp [go_sem]) ?_
          simp only [Act.put, List.setIfInBounds_toArray, List.set_cons_zero, List.set_cons_succ]
          refine wpU_val 3 hKS rfl (by kernel_rfl) (by kernel_rfl) (by kernel_rfl) rfl (fun _ _ _ _ h => h) (.int .i64 f2) (fun w' h => by simp [go_sem, h.cell 1 rfl]) ?_
          simp only [Act.put, List.setIfInBounds_toArray, List.set_cons_zero, List.set_cons_succ]
          refine wpU_val 4 hKS rfl (by kernel_rfl) (by kernel_rfl) (by kernel_rfl) rfl (fun _ _ _ _ h => h) (.pointer (some ⟨w.heap.size, 0, none⟩)) (fun w' h => by simp [go_sem]) ?_
          simp only [Act.put, List.setIfInBounds_toArray, List.set_cons_zero, List.set_cons_succ]
          refine wpU_one 5 rfl (by kernel_rfl) rfl ?_
          intro w5 b5 s5
          have b5' : Below u0.heap.size u0 w5 := (Below.refl _ u0).drew.trans b5
          have X5 := X.out.after b5'
          refine wp_store_bool 4 _ _ rfl rfl rfl (X5.cell 0 rfl) (X5.frozen 0) (fun w => by simp [go_sem]) ?_
          have X6 := X5.set 0 (.bool false)
          have e6 : But (fun k => k = w.heap.size) w5 (w5.setCell ⟨w.heap.size, 0, none⟩ (.bool false)) := (But.refl (fun k => k = w.heap.size) w5).setCell (p := ⟨w.heap.size, 0, none⟩) (.inl rfl) _
          refine ⟨e6.box s5 (by omega), ?_⟩
          simp only [Act.put, List.setIfInBounds_toArray, List.set_cons_zero, List.set_cons_succ]
          generalize (w5.setCell ⟨w.heap.size, 0, none⟩ (.bool false)) = w6 at *
          refine wpU_val 6 hKS rfl (by kernel_rfl) (by kernel_rfl) (by kernel_rfl) rfl (fun _ _ _ _ h => h) (.pointer (some ⟨w.heap.size, 1, none⟩)) (fun w' h => by simp [go_sem]) ?_
          simp only [Act.put, List.setIfInBounds_toArray, List.set_cons_zero, List.set_cons_succ]
          refine wpU_one 7 rfl (by kernel_rfl) rfl ?_
          intro w7 b7 s7
          have X7 := X6.after b7
          refine wp_store_i64 2 _ _ rfl rfl rfl (X7.cell 1 rfl) (X7.frozen 1) (fun w => by simp [go_sem]) ?_
          have X8 := X7.set 1 (.int .i64 f2)
          have e8 : But (fun k => k = w.heap.size) w7 (w7.setCell ⟨w.heap.size, 1, none⟩ (.int .i64 f2)) := (But.refl (fun k => k = w.heap.size) w7).setCell (p := ⟨w.heap.size, 1, none⟩) (.inl rfl) _
          refine ⟨e8.box s7 (by omega), ?_⟩
          simp only [Act.put, List.setIfInBounds_toArray, List.set_cons_zero, List.set_cons_succ]
          generalize (w7.setCell ⟨w.heap.size, 1, none⟩ (.int .i64 f2)) = w8 at *
          refine wpU_done (by kernel_rfl) ?_
          intro u1 b9 s9
          have E9 : But (fun k => k = w.heap.size) u0 u1 := (((But.ofBelow b5').trans e6 (fun k hk => .inl hk)).trans ((But.ofBelow (S := fun _ => False) b7)) (fun _ h => h.elim)).trans (e8.trans (But.ofBelow (S := fun _ => False) b9) (fun _ h => h.elim)) (fun k hk => .inl hk)
          replace X := Lib.hid (X8.after b9)
          replace Y := Lib.hid s9
          replace R := Lib.hid (E9.box R.out (by omega))
          replace B := E9.after B B.size (fun k hk => by omega)
          clear hKS b5 b5' s5 X5 X6 e6 b7 s7 X7 X8 e8 b9 s9 E9
          have x0 := X.out.cell 0 rfl
          have x1 := X.out.cell 1 rfl
          have x2 := X.out.cell 2 rfl
          have x3 := X.out.cell 3 rfl
          have y0 := Y.out.cell 0 rfl
          have y1 := Y.out.cell 1 rfl
          have y2 := Y.out.cell 2 rfl
          have y3 := Y.out.cell 3 rfl
          have fx0 := X.out.frozen 0
          have fx1 := X.out.frozen 1
          have fx2 := X.out.frozen 2
          have fx3 := X.out.frozen 3
          go_upto_region 5 with fail
          go_upto_region 9 with fail
          clear x0 x1 x2 x3 y0 y1 y2 y3 fx0 fx1 fx2 fx3
          go_wp2_with first | (refine wpList_load_box rfl 23 _ rfl X.out (by rfl) Tryd.underlying23 rfl (by kernel_rfl) ?_) | (refine wpList_store_box (cells := #[.bool false, .int .i64 f2, .bool true, .int .i64 t]) rfl 23 _ _ rfl R.out (by rfl) (by rfl) rfl (by kernel_rfl) (by simp [Value.oneCell']) ?_; intro u9 X9 st9)
          exact bodyPost_ret (v := .agg #[.bool false, .int .i64 f2, .bool true, .int .i64 t]) (box_result rfl _ _ (by rfl) X9 Tryd.underlying23 rfl (by kernel_rfl)) rfl ⟨rfl, st9.below w.heap.size w (by omega) B⟩
        | true =>
          have x0 := X.out.cell 0 rfl
          have x1 := X.out.cell 1 rfl
          have x2 := X.out.cell 2 rfl
          have x3 := X.out.cell 3 rfl
          have y0 := Y.out.cell 0 rfl
          have y1 := Y.out.cell 1 rfl
          have y2 := Y.out.cell 2 rfl
          have y3 := Y.out.cell 3 rfl
          have fx0 := X.out.frozen 0
          have fx1 := X.out.frozen 1
          have fx2 := X.out.frozen 2
          have fx3 := X.out.frozen 3
          go_upto_region 2 with fail
          clear x0 x1 x2 x3 y0 y1 y2 y3 fx0 fx1 fx2 fx3
          have hKS : Keeps (fun w' => Box w' (w.heap.size + 1) 23 #[.bool false, .int .i64 f2, .bool true, .int .i64 t2]) := fun w w' h b => h.after b
          refine wp_region_U (w := u0) (fun w' => Box w' (w.heap.size + 1) 23 #[.bool false, .int .i64 f2, .bool true, .int .i64 t2]) rfl Y.out.drew ?_
          refine wpU_val 0 hKS rfl (by kernel_rfl) (by kernel_rfl) (by kernel_rfl) rfl (fun _ _ _ _ h => h) (.pointer (some ⟨w.heap.size + 1, 0, none⟩)) (fun w' h => by simp [go_sem]) ?_
          simp only [Act.put, List.setIfInBounds_toArray, List.set_cons_zero, List.set_cons_succ]
          refine wpU_val 1 hKS rfl (by kernel_rfl) (by kernel_rfl) (by kernel_rfl) rfl (fun _ _ _ _ h => h) (.bool false) (fun w' h => by simp [go_sem, h.cell 0 rfl]) ?_
          simp only [Act.put, List.setIfInBounds_toArray, List.set_cons_zero, List.set_cons_succ]
          refine wpU_val 2 hKS rfl (by kernel_rfl) (by kernel_rfl) (by kernel_rfl) rfl (fun _ _ _ _ h => h) (.pointer (some ⟨w.heap.size + 1, 1, none⟩)) (fun w' h => by simp [go_sem]) ?_
          simp only [Act.put, List.setIfInBounds_toArray, List.set_cons_zero, List.set_cons_succ]
          refine wpU_val 3 hKS rfl (by kernel_rfl) (by kernel_rfl) (by kernel_rfl) rfl (fun _ _ _ _ h => h) (.int .i64 f2) (fun w' h => by simp [go_sem, h.cell 1 rfl]) ?_
          simp only [Act.put, List.setIfInBounds_toArray, List.set_cons_zero, List.set_cons_succ]
          refine wpU_val 4 hKS rfl (by kernel_rfl) (by kernel_rfl) (by kernel_rfl) rfl (fun _ _ _ _ h => h) (.pointer (some ⟨w.heap.size, 0, none⟩)) (fun w' h => by simp [go_sem]) ?_
          simp only [Act.put, List.setIfInBounds_toArray, List.set_cons_zero, List.set_cons_succ]
          refine wpU_one 5 rfl (by kernel_rfl) rfl ?_
          intro w5 b5 s5
          have b5' : Below u0.heap.size u0 w5 := (Below.refl _ u0).drew.trans b5
          have X5 := X.out.after b5'
          refine wp_store_bool 4 _ _ rfl rfl rfl (X5.cell 0 rfl) (X5.frozen 0) (fun w => by simp [go_sem]) ?_
          have X6 := X5.set 0 (.bool false)
          have e6 : But (fun k => k = w.heap.size) w5 (w5.setCell ⟨w.heap.size, 0, none⟩ (.bool false)) := (But.refl (fun k => k = w.heap.size) w5).setCell (p := ⟨w.heap.size, 0, none⟩) (.inl rfl) _
          refine ⟨e6.box s5 (by omega), ?_⟩
          simp only [Act.put, List.setIfInBounds_toArray, List.set_cons_zero, List.set_cons_succ]
          generalize (w5.setCell ⟨w.heap.size, 0, none⟩ (.bool false)) = w6 at *
          refine wpU_val 6 hKS rfl (by kernel_rfl) (by kernel_rfl) (by kernel_rfl) rfl (fun _ _ _ _ h => h) (.pointer (some ⟨w.heap.size, 1, none⟩)) (fun w' h => by simp [go_sem]) ?_
          simp only [Act.put, List.setIfInBounds_toArray, List.set_cons_zero, List.set_cons_succ]
          refine wpU_one 7 rfl (by kernel_rfl) rfl ?_
          intro w7 b7 s7
          have X7 := X6.after b7
          refine wp_store_i64 2 _ _ rfl rfl rfl (X7.cell 1 rfl) (X7.frozen 1) (fun w => by simp [go_sem]) ?_
          have X8 := X7.set 1 (.int .i64 f2)
          have e8 : But (fun k => k = w.heap.size) w7 (w7.setCell ⟨w.heap.size, 1, none⟩ (.int .i64 f2)) := (But.refl (fun k => k = w.heap.size) w7).setCell (p := ⟨w.heap.size, 1, none⟩) (.inl rfl) _
          refine ⟨e8.box s7 (by omega), ?_⟩
          simp only [Act.put, List.setIfInBounds_toArray, List.set_cons_zero, List.set_cons_succ]
          generalize (w7.setCell ⟨w.heap.size, 1, none⟩ (.int .i64 f2)) = w8 at *
          refine wpU_done (by kernel_rfl) ?_
          intro u1 b9 s9
          have E9 : But (fun k => k = w.heap.size) u0 u1 := (((But.ofBelow b5').trans e6 (fun k hk => .inl hk)).trans ((But.ofBelow (S := fun _ => False) b7)) (fun _ h => h.elim)).trans (e8.trans (But.ofBelow (S := fun _ => False) b9) (fun _ h => h.elim)) (fun k hk => .inl hk)
          replace X := Lib.hid (X8.after b9)
          replace Y := Lib.hid s9
          replace R := Lib.hid (E9.box R.out (by omega))
          replace B := E9.after B B.size (fun k hk => by omega)
          clear hKS b5 b5' s5 X5 X6 e6 b7 s7 X7 X8 e8 b9 s9 E9
          have x0 := X.out.cell 0 rfl
          have x1 := X.out.cell 1 rfl
          have x2 := X.out.cell 2 rfl
          have x3 := X.out.cell 3 rfl
          have y0 := Y.out.cell 0 rfl
          have y1 := Y.out.cell 1 rfl
          have y2 := Y.out.cell 2 rfl
          have y3 := Y.out.cell 3 rfl
          have fx0 := X.out.frozen 0
          have fx1 := X.out.frozen 1
          have fx2 := X.out.frozen 2
          have fx3 := X.out.frozen 3
          go_upto_region 5 with fail
          go_upto_region 9 with fail
          replace X := Lib.hid (X.out.set 3 (.int .i64 (min t t2)))
          replace Y := Lib.hid (Y.out.far ⟨w.heap.size, 3, none⟩ (.int .i64 (min t t2)) (by show w.heap.size + 1 ≠ w.heap.size; omega))
          replace R := Lib.hid (R.out.far ⟨w.heap.size, 3, none⟩ (.int .i64 (min t t2)) (by show w.heap.size + 1 + 1 ≠ w.heap.size; omega))
          replace B := B.setCell (p := ⟨w.heap.size, 3, none⟩) (Nat.le_refl _) (.int .i64 (min t t2))
          clear x0 x1 x2 x3 y0 y1 y2 y3 fx0 fx1 fx2 fx3
          change Code.wp _ _ _ _ (u1.setCell ⟨w.heap.size, 3, none⟩ (.int .i64 (min t t2)))
          generalize (u1.setCell ⟨w.heap.size, 3, none⟩ (.int .i64 (min t t2))) = u2 at *
          go_wp2_with first | (refine wpList_load_box rfl 23 _ rfl X.out (by rfl) Tryd.underlying23 rfl (by kernel_rfl) ?_) | (refine wpList_store_box (cells := #[.bool false, .int .i64 f2, .bool true, .int .i64 (min t t2)]) rfl 23 _ _ rfl R.out (by rfl) (by rfl) rfl (by kernel_rfl) (by simp [Value.oneCell']) ?_; intro u9 X9 st9)
          exact bodyPost_ret (v := .agg #[.bool false, .int .i64 f2, .bool true, .int .i64 (min t t2)]) (box_result rfl _ _ (by rfl) X9 Tryd.underlying23 rfl (by kernel_rfl)) rfl ⟨rfl, st9.below w.heap.size w (by omega) B⟩
    | true =>
      cases q with
      | false =>
        cases q2 with
        | false =>
          have x0 := X.out.cell 0 rfl
          have x1 := X.out.cell 1 rfl
          have x2 := X.out.cell 2 rfl
          have x3 := X.out.cell 3 rfl
          have y0 := Y.out.cell 0 rfl
          have y1 := Y.out.cell 1 rfl
          have y2 := Y.out.cell 2 rfl
          have y3 := Y.out.cell 3 rfl
          have fx0 := X.out.frozen 0
          have fx1 := X.out.frozen 1
          have fx2 := X.out.frozen 2
          have fx3 := X.out.frozen 3
          go_upto_region 2 with fail
          clear x0 x1 x2 x3 y0 y1 y2 y3 fx0 fx1 fx2 fx3
          have hKS : Keeps (fun w' => Box w' (w.heap.size + 1) 23 #[.bool true, .int .i64 f2, .bool false, .int .i64 t2]) := fun w w' h b => h.after b
          refine wp_region_U (w := u0) (fun w' => Box w' (w.heap.size + 1) 23 #[.bool true, .int .i64 f2, .bool false, .int .i64 t2]) rfl Y.out.drew ?_
          refine wpU_val 0 hKS rfl (by kernel_rfl) (by kernel_rfl) (by kernel_rfl) rfl (fun _ _ _ _ h => h) (.pointer (some ⟨w.heap.size + 1, 0, none⟩)) (fun w' h => by simp [go_sem]) ?_
          simp only [Act.put, List.setIfInBounds_toArray, List.set_cons_zero, List.set_cons_succ]
          refine wpU_val 1 hKS rfl (by kernel_rfl) (by kernel_rfl) (by kernel_rfl) rfl (fun _ _ _ _ h => h) (.bool true) (fun w' h => by simp [go_sem, h.cell 0 rfl]) ?_
          simp only [Act.put, List.setIfInBounds_toArray, List.set_cons_zero, List.set_cons_succ]
          refine wpU_val 2 hKS rfl (by kernel_rfl) (by kernel_rfl) (by kernel_rfl) rfl (fun _ _ _ _ h => h) (.pointer (some ⟨w.heap.size + 1, 1, none⟩)) (fun w' h => by simp [go_sem]) ?_
          simp only [Act.put, List.setIfInBounds_toArray, List.set_cons_zero, List.set_cons_succ]
          refine wpU_val 3 hKS rfl (by kernel_rfl) (by kernel_rfl) (by kernel_rfl) rfl (fun _ _ _ _ h => h) (.int .i64 f2) (fun w' h => by simp [go_sem, h.cell 1 rfl]) ?_
          simp only [Act.put, List.setIfInBounds_toArray, List.set_cons_zero, List.set_cons_succ]
          refine wpU_val 4 hKS rfl (by kernel_rfl) (by kernel_rfl) (by kernel_rfl) rfl (fun _ _ _ _ h => h) (.pointer (some ⟨w.heap.size, 0, none⟩)) (fun w' h => by simp [go_sem]) ?_
          simp only [Act.put, List.setIfInBounds_toArray, List.set_cons_zero, List.set_cons_succ]
          refine wpU_one 5 rfl (by kernel_rfl) rfl ?_
          intro w5 b5 s5
          have b5' : Below u0.heap.size u0 w5 := (Below.refl _ u0).drew.trans b5
          have X5 := X.out.after b5'
          refine wp_store_bool 4 _ _ rfl rfl rfl (X5.cell 0 rfl) (X5.frozen 0) (fun w => by simp [go_sem]) ?_
          have X6 := X5.set 0 (.bool true)
          have e6 : But (fun k => k = w.heap.size) w5 (w5.setCell ⟨w.heap.size, 0, none⟩ (.bool true)) := (But.refl (fun k => k = w.heap.size) w5).setCell (p := ⟨w.heap.size, 0, none⟩) (.inl rfl) _
          refine ⟨e6.box s5 (by omega), ?_⟩
          simp only [Act.put, List.setIfInBounds_toArray, List.set_cons_zero, List.set_cons_succ]
          generalize (w5.setCell ⟨w.heap.size, 0, none⟩ (.bool true)) = w6 at *
          refine wpU_val 6 hKS rfl (by kernel_rfl) (by kernel_rfl) (by kernel_rfl) rfl (fun _ _ _ _ h => h) (.pointer (some ⟨w.heap.size, 1, none⟩)) (fun w' h => by simp [go_sem]) ?_
          simp only [Act.put, List.setIfInBounds_toArray, List.set_cons_zero, List.set_cons_succ]
          refine wpU_one 7 rfl (by kernel_rfl) rfl ?_
          intro w7 b7 s7
          have X7 := X6.after b7
          refine wp_store_i64 2 _ _ rfl rfl rfl (X7.cell 1 rfl) (X7.frozen 1) (fun w => by simp [go_sem]) ?_
          have X8 := X7.set 1 (.int .i64 f2)
          have e8 : But (fun k => k = w.heap.size) w7 (w7.setCell ⟨w.heap.size, 1, none⟩ (.int .i64 f2)) := (But.refl (fun k => k = w.heap.size) w7).setCell (p := ⟨w.heap.size, 1, none⟩) (.inl rfl) _
          refine ⟨e8.box s7 (by omega), ?_⟩
          simp only [Act.put, List.setIfInBounds_toArray, List.set_cons_zero, List.set_cons_succ]
          generalize (w7.setCell ⟨w.heap.size, 1, none⟩ (.int .i64 f2)) = w8 at *
          refine wpU_done (by kernel_rfl) ?_
          intro u1 b9 s9
          have E9 : But (fun k => k = w.heap.size) u0 u1 := (((But.ofBelow b5').trans e6 (fun k hk => .inl hk)).trans ((But.ofBelow (S := fun _ => False) b7)) (fun _ h => h.elim)).trans (e8.trans (But.ofBelow (S := fun _ => False) b9) (fun _ h => h.elim)) (fun k hk => .inl hk)
          replace X := Lib.hid (X8.after b9)
          replace Y := Lib.hid s9
          replace R := Lib.hid (E9.box R.out (by omega))
          replace B := E9.after B B.size (fun k hk => by omega)
          clear hKS b5 b5' s5 X5 X6 e6 b7 s7 X7 X8 e8 b9 s9 E9
          have x0 := X.out.cell 0 rfl
          have x1 := X.out.cell 1 rfl
          have x2 := X.out.cell 2 rfl
          have x3 := X.out.cell 3 rfl
          have y0 := Y.out.cell 0 rfl
          have y1 := Y.out.cell 1 rfl
          have y2 := Y.out.cell 2 rfl
          have y3 := Y.out.cell 3 rfl
          have fx0 := X.out.frozen 0
          have fx1 := X.out.frozen 1
          have fx2 := X.out.frozen 2
          have fx3 := X.out.frozen 3
          go_upto_region 5 with fail
          go_upto_region 6 with fail
          clear x0 x1 x2 x3 y0 y1 y2 y3 fx0 fx1 fx2 fx3
          have hKS : Keeps (fun w' => Box w' (w.heap.size + 1) 23 #[.bool true, .int .i64 f2, .bool false, .int .i64 t2]) := fun w w' h b => h.after b
          refine wp_region_U (w := u1) (fun w' => Box w' (w.heap.size + 1) 23 #[.bool true, .int .i64 f2, .bool false, .int .i64 t2]) rfl Y.out.drew ?_
          refine wpU_val 0 hKS rfl (by kernel_rfl) (by kernel_rfl) (by kernel_rfl) rfl (fun _ _ _ _ h => h) (.pointer (some ⟨w.heap.size + 1, 2, none⟩)) (fun w' h => by simp [go_sem]) ?_
          simp only [Act.put, List.setIfInBounds_toArray, List.set_cons_zero, List.set_cons_succ]
          refine wpU_val 1 hKS rfl (by kernel_rfl) (by kernel_rfl) (by kernel_rfl) rfl (fun _ _ _ _ h => h) (.bool false) (fun w' h => by simp [go_sem, h.cell 2 rfl]) ?_
          simp only [Act.put, List.setIfInBounds_toArray, List.set_cons_zero, List.set_cons_succ]
          refine wpU_val 2 hKS rfl (by kernel_rfl) (by kernel_rfl) (by kernel_rfl) rfl (fun _ _ _ _ h => h) (.pointer (some ⟨w.heap.size + 1, 3, none⟩)) (fun w' h => by simp [go_sem]) ?_
          simp only [Act.put, List.setIfInBounds_toArray, List.set_cons_zero, List.set_cons_succ]
          refine wpU_val 3 hKS rfl (by kernel_rfl) (by kernel_rfl) (by kernel_rfl) rfl (fun _ _ _ _ h => h) (.int .i64 t2) (fun w' h => by simp [go_sem, h.cell 3 rfl]) ?_
          simp only [Act.put, List.setIfInBounds_toArray, List.set_cons_zero, List.set_cons_succ]
          refine wpU_val 4 hKS rfl (by kernel_rfl) (by kernel_rfl) (by kernel_rfl) rfl (fun _ _ _ _ h => h) (.pointer (some ⟨w.heap.size, 2, none⟩)) (fun w' h => by simp [go_sem]) ?_
          simp only [Act.put, List.setIfInBounds_toArray, List.set_cons_zero, List.set_cons_succ]
          refine wpU_one 5 rfl (by kernel_rfl) rfl ?_
          intro w5 b5 s5
          have b5' : Below u1.heap.size u1 w5 := (Below.refl _ u1).drew.trans b5
          have X5 := X.out.after b5'
          refine wp_store_bool 4 _ _ rfl rfl rfl (X5.cell 2 rfl) (X5.frozen 2) (fun w => by simp [go_sem]) ?_
          have X6 := X5.set 2 (.bool false)
          have e6 : But (fun k => k = w.heap.size) w5 (w5.setCell ⟨w.heap.size, 2, none⟩ (.bool false)) := (But.refl (fun k => k = w.heap.size) w5).setCell (p := ⟨w.heap.size, 2, none⟩) (.inl rfl) _
          refine ⟨e6.box s5 (by omega), ?_⟩
          simp only [Act.put, List.setIfInBounds_toArray, List.set_cons_zero, List.set_cons_succ]
          generalize (w5.setCell ⟨w.heap.size, 2, none⟩ (.bool false)) = w6 at *
          refine wpU_val 6 hKS rfl (by kernel_rfl) (by kernel_rfl) (by kernel_rfl) rfl (fun _ _ _ _ h => h) (.pointer (some ⟨w.heap.size, 3, none⟩)) (fun w' h => by simp [go_sem]) ?_
          simp only [Act.put, List.setIfInBounds_toArray, List.set_cons_zero, List.set_cons_succ]
          refine wpU_one 7 rfl (by kernel_rfl) rfl ?_
          intro w7 b7 s7
          have X7 := X6.after b7
          refine wp_store_i64 2 _ _ rfl rfl rfl (X7.cell 3 rfl) (X7.frozen 3) (fun w => by simp [go_sem]) ?_
          have X8 := X7.set 3 (.int .i64 t2)
          have e8 : But (fun k => k = w.heap.size) w7 (w7.setCell ⟨w.heap.size, 3, none⟩ (.int .i64 t2)) := (But.refl (fun k => k = w.heap.size) w7).setCell (p := ⟨w.heap.size, 3, none⟩) (.inl rfl) _
          refine ⟨e8.box s7 (by omega), ?_⟩
          simp only [Act.put, List.setIfInBounds_toArray, List.set_cons_zero, List.set_cons_succ]
          generalize (w7.setCell ⟨w.heap.size, 3, none⟩ (.int .i64 t2)) = w8 at *
          refine wpU_done (by kernel_rfl) ?_
          intro u2 b9 s9
          have E9 : But (fun k => k = w.heap.size) u1 u2 := (((But.ofBelow b5').trans e6 (fun k hk => .inl hk)).trans ((But.ofBelow (S := fun _ => False) b7)) (fun _ h => h.elim)).trans (e8.trans (But.ofBelow (S := fun _ => False) b9) (fun _ h => h.elim)) (fun k hk => .inl hk)
          replace X := Lib.hid (X8.after b9)
          replace Y := Lib.hid s9
          replace R := Lib.hid (E9.box R.out (by omega))
          replace B := E9.after B B.size (fun k hk => by omega)
          clear hKS b5 b5' s5 X5 X6 e6 b7 s7 X7 X8 e8 b9 s9 E9
          go_wp2_with first | (refine wpList_load_box rfl 23 _ rfl X.out (by rfl) Tryd.underlying23 rfl (by kernel_rfl) ?_) | (refine wpList_store_box (cells := #[.bool true, .int .i64 f2, .bool false, .int .i64 t2]) rfl 23 _ _ rfl R.out (by rfl) (by rfl) rfl (by kernel_rfl) (by simp [Value.oneCell']) ?_; intro u9 X9 st9)
          exact bodyPost_ret (v := .agg #[.bool true, .int .i64 f2, .bool false, .int .i64 t2]) (box_result rfl _ _ (by rfl) X9 Tryd.underlying23 rfl (by kernel_rfl)) rfl ⟨rfl, st9.below w.heap.size w (by omega) B⟩
        | true =>
          have x0 := X.out.cell 0 rfl
          have x1 := X.out.cell 1 rfl
          have x2 := X.out.cell 2 rfl
          have x3 := X.out.cell 3 rfl
          have y0 := Y.out.cell 0 rfl
          have y1 := Y.out.cell 1 rfl
          have y2 := Y.out.cell 2 rfl
          have y3 := Y.out.cell 3 rfl
          have fx0 := X.out.frozen 0
          have fx1 := X.out.frozen 1
          have fx2 := X.out.frozen 2
          have fx3 := X.out.frozen 3
          go_upto_region 2 with fail
          clear x0 x1 x2 x3 y0 y1 y2 y3 fx0 fx1 fx2 fx3
          have hKS : Keeps (fun w' => Box w' (w.heap.size + 1) 23 #[.bool true, .int .i64 f2, .bool true, .int .i64 t2]) := fun w w' h b => h.after b
          refine wp_region_U (w := u0) (fun w' => Box w' (w.heap.size + 1) 23 #[.bool true, .int .i64 f2, .bool true, .int .i64 t2]) rfl Y.out.drew ?_
          refine wpU_val 0 hKS rfl (by kernel_rfl) (by kernel_rfl) (by kernel_rfl) rfl (fun _ _ _ _ h => h) (.pointer (some ⟨w.heap.size + 1, 0, none⟩)) (fun w' h => by simp [go_sem]) ?_
          simp only [Act.put, List.setIfInBounds_toArray, List.set_cons_zero, List.set_cons_succ]
          refine wpU_val 1 hKS rfl (by kernel_rfl) (by kernel_rfl) (by kernel_rfl) rfl (fun _ _ _ _ h => h) (.bool true) (fun w' h => by simp [go_sem, h.cell 0 rfl]) ?_
          simp only [Act.put, List.setIfInBounds_toArray, List.set_cons_zero, List.set_cons_succ]
          refine wpU_val 2 hKS rfl (by kernel_rfl) (by kernel_rfl) (by kernel_rfl) rfl (fun _ _ _ _ h => h) (.pointer (some ⟨w.heap.size + 1, 1, none⟩)) (fun w' h => by simp [go_sem]) ?_
          simp only [Act.put, List.setIfInBounds_toArray, List.set_cons_zero, List.set_cons_succ]
          refine wpU_val 3 hKS rfl (by kernel_rfl) (by kernel_rfl) (by kernel_rfl) rfl (fun _ _ _ _ h => h) (.int .i64 f2) (fun w' h => by simp [go_sem, h.cell 1 rfl]) ?_
          simp only [Act.put, List.setIfInBounds_toArray, List.set_cons_zero, List.set_cons_succ]
          refine wpU_val 4 hKS rfl (by kernel_rfl) (by kernel_rfl) (by kernel_rfl) rfl (fun _ _ _ _ h => h) (.pointer (some ⟨w.heap.size, 0, none⟩)) (fun w' h => by simp [go_sem]) ?_
          simp only [Act.put, List.setIfInBounds_toArray, List.set_cons_zero, List.set_cons_succ]
          refine wpU_one 5 rfl (by kernel_rfl) rfl ?_
          intro w5 b5 s5
          have b5' : Below u0.heap.size u0 w5 := (Below.refl _ u0).drew.trans b5
          have X5 := X.out.after b5'
          refine wp_store_bool 4 _ _ rfl rfl rfl (X5.cell 0 rfl) (X5.frozen 0) (fun w => by simp [go_sem]) ?_
          have X6 := X5.set 0 (.bool true)
          have e6 : But (fun k => k = w.heap.size) w5 (w5.setCell ⟨w.heap.size, 0, none⟩ (.bool true)) := (But.refl (fun k => k = w.heap.size) w5).setCell (p := ⟨w.heap.size, 0, none⟩) (.inl rfl) _
          refine ⟨e6.box s5 (by omega), ?_⟩
          simp only [Act.put, List.setIfInBounds_toArray, List.set_cons_zero, List.set_cons_succ]
          generalize (w5.setCell ⟨w.heap.size, 0, none⟩ (.bool true)) = w6 at *
          refine wpU_val 6 hKS rfl (by kernel_rfl) (by kernel_rfl) (by kernel_rfl) rfl (fun _ _ _ _ h => h) (.pointer (some ⟨w.heap.size, 1, none⟩)) (fun w' h => by simp [go_sem]) ?_
          simp only [Act.put, List.setIfInBounds_toArray, List.set_cons_zero, List.set_cons_succ]
          refine wpU_one 7 rfl (by kernel_rfl) rfl ?_
          intro w7 b7 s7
          have X7 := X6.after b7
          refine wp_store_i64 2 _ _ rfl rfl rfl (X7.cell 1 rfl) (X7.frozen 1) (fun w => by simp [go_sem]) ?_
          have X8 := X7.set 1 (.int .i64 f2)
          have e8 : But (fun k => k = w.heap.size) w7 (w7.setCell ⟨w.heap.size, 1, none⟩ (.int .i64 f2)) := (But.refl (fun k => k = w.heap.size) w7).setCell (p := ⟨w.heap.size, 1, none⟩) (.inl rfl) _
          refine ⟨e8.box s7 (by omega), ?_⟩
          simp only [Act.put, List.setIfInBounds_toArray, List.set_cons_zero, List.set_cons_succ]
          generalize (w7.setCell ⟨w.heap.size, 1, none⟩ (.int .i64 f2)) = w8 at *
          refine wpU_done (by kernel_rfl) ?_
          intro u1 b9 s9
          have E9 : But (fun k => k = w.heap.size) u0 u1 := (((But.ofBelow b5').trans e6 (fun k hk => .inl hk)).trans ((But.ofBelow (S := fun _ => False) b7)) (fun _ h => h.elim)).trans (e8.trans (But.ofBelow (S := fun _ => False) b9) (fun _ h => h.elim)) (fun k hk => .inl hk)
          replace X := Lib.hid (X8.after b9)
          replace Y := Lib.hid s9
          replace R := Lib.hid (E9.box R.out (by omega))
          replace B := E9.after B B.size (fun k hk => by omega)
          clear hKS b5 b5' s5 X5 X6 e6 b7 s7 X7 X8 e8 b9 s9 E9
          have x0 := X.out.cell 0 rfl
          have x1 := X.out.cell 1 rfl
          have x2 := X.out.cell 2 rfl
          have x3 := X.out.cell 3 rfl
          have y0 := Y.out.cell 0 rfl
          have y1 := Y.out.cell 1 rfl
          have y2 := Y.out.cell 2 rfl
          have y3 := Y.out.cell 3 rfl
          have fx0 := X.out.frozen 0
          have fx1 := X.out.frozen 1
          have fx2 := X.out.frozen 2
          have fx3 := X.out.frozen 3
          go_upto_region 5 with fail
          go_upto_region 6 with fail
          clear x0 x1 x2 x3 y0 y1 y2 y3 fx0 fx1 fx2 fx3
          have hKS : Keeps (fun w' => Box w' (w.heap.size + 1) 23 #[.bool true, .int .i64 f2, .bool true, .int .i64 t2]) := fun w w' h b => h.after b
          refine wp_region_U (w := u1) (fun w' => Box w' (w.heap.size + 1) 23 #[.bool true, .int .i64 f2, .bool true, .int .i64 t2]) rfl Y.out.drew ?_
          refine wpU_val 0 hKS rfl (by kernel_rfl) (by kernel_rfl) (by kernel_rfl) rfl (fun _ _ _ _ h => h) (.pointer (some ⟨w.heap.size + 1, 2, none⟩)) (fun w' h => by simp [go_sem]) ?_
          simp only [Act.put, List.setIfInBounds_toArray, List.set_cons_zero, List.set_cons_succ]
          refine wpU_val 1 hKS rfl (by kernel_rfl) (by kernel_rfl) (by kernel_rfl) rfl (fun _ _ _ _ h => h) (.bool true) (fun w' h => by simp [go_sem, h.cell 2 rfl]) ?_
          simp only [Act.put, List.setIfInBounds_toArray, List.set_cons_zero, List.set_cons_succ]
          refine wpU_val 2 hKS rfl (by kernel_rfl) (by kernel_rfl) (by kernel_rfl) rfl (fun _ _ _ _ h => h) (.pointer (some ⟨w.heap.size + 1, 3, none⟩)) (fun w' h => by simp [go_sem]) ?_
          simp only [Act.put, List.setIfInBounds_toArray, List.set_cons_zero, List.set_cons_succ]
          refine wpU_val 3 hKS rfl (by kernel_rfl) (by kernel_rfl) (by kernel_rfl) rfl (fun _ _ _ _ h => h) (.int .i64 t2) (fun w' h => by simp [go_sem, h.cell 3 rfl]) ?_
          simp only [Act.put, List.setIfInBounds_toArray, List.set_cons_zero, List.set_cons_succ]
          refine wpU_val 4 hKS rfl (by kernel_rfl) (by kernel_rfl) (by kernel_rfl) rfl (fun _ _ _ _ h => h) (.pointer (some ⟨w.heap.size, 2, none⟩)) (fun w' h => by simp [go_sem]) ?_
          simp only [Act.put, List.setIfInBounds_toArray, List.set_cons_zero, List.set_cons_succ]
          refine wpU_one 5 rfl (by kernel_rfl) rfl ?_
          intro w5 b5 s5
          have b5' : Below u1.heap.size u1 w5 := (Below.refl _ u1).drew.trans b5
          have X5 := X.out.after b5'
          refine wp_store_bool 4 _ _ rfl rfl rfl (X5.cell 2 rfl) (X5.frozen 2) (fun w => by simp [go_sem]) ?_
          have X6 := X5.set 2 (.bool true)
          have e6 : But (fun k => k = w.heap.size) w5 (w5.setCell ⟨w.heap.size, 2, none⟩ (.bool true)) := (But.refl (fun k => k = w.heap.size) w5).setCell (p := ⟨w.heap.size, 2, none⟩) (.inl rfl) _
          refine ⟨e6.box s5 (by omega), ?_⟩
          simp only [Act.put, List.setIfInBounds_toArray, List.set_cons_zero, List.set_cons_succ]
          generalize (w5.setCell ⟨w.heap.size, 2, none⟩ (.bool true)) = w6 at *
          refine wpU_val 6 hKS rfl (by kernel_rfl) (by kernel_rfl) (by kernel_rfl) rfl (fun _ _ _ _ h => h) (.pointer (some ⟨w.heap.size, 3, none⟩)) (fun w' h => by simp [go_sem]) ?_
          simp only [Act.put, List.setIfInBounds_toArray, List.set_cons_zero, List.set_cons_succ]
          refine wpU_one 7 rfl (by kernel_rfl) rfl ?_
          intro w7 b7 s7
          have X7 := X6.after b7
          refine wp_store_i64 2 _ _ rfl rfl rfl (X7.cell 3 rfl) (X7.frozen 3) (fun w => by simp [go_sem]) ?_
          have X8 := X7.set 3 (.int .i64 t2)
          have e8 : But (fun k => k = w.heap.size) w7 (w7.setCell ⟨w.heap.size, 3, none⟩ (.int .i64 t2)) := (But.refl (fun k => k = w.heap.size) w7).setCell (p := ⟨w.heap.size, 3, none⟩) (.inl rfl) _
          refine ⟨e8.box s7 (by omega), ?_⟩
          simp only [Act.put, List.setIfInBounds_toArray, List.set_cons_zero, List.set_cons_succ]
          generalize (w7.setCell ⟨w.heap.size, 3, none⟩ (.int .i64 t2)) = w8 at *
          refine wpU_done (by kernel_rfl) ?_
          intro u2 b9 s9
          have E9 : But (fun k => k = w.heap.size) u1 u2 := (((But.ofBelow b5').trans e6 (fun k hk => .inl hk)).trans ((But.ofBelow (S := fun _ => False) b7)) (fun _ h => h.elim)).trans (e8.trans (But.ofBelow (S := fun _ => False) b9) (fun _ h => h.elim)) (fun k hk => .inl hk)
          replace X := Lib.hid (X8.after b9)
          replace Y := Lib.hid s9
          replace R := Lib.hid (E9.box R.out (by omega))
          replace B := E9.after B B.size (fun k hk => by omega)
          clear hKS b5 b5' s5 X5 X6 e6 b7 s7 X7 X8 e8 b9 s9 E9
          go_wp2_with first | (refine wpList_load_box rfl 23 _ rfl X.out (by rfl) Tryd.underlying23 rfl (by kernel_rfl) ?_) | (refine wpList_store_box (cells := #[.bool true, .int .i64 f2, .bool true, .int .i64 t2]) rfl 23 _ _ rfl R.out (by rfl) (by rfl) rfl (by kernel_rfl) (by simp [Value.oneCell']) ?_; intro u9 X9 st9)
          exact bodyPost_ret (v := .agg #[.bool true, .int .i64 f2, .bool true, .int .i64 t2]) (box_result rfl _ _ (by rfl) X9 Tryd.underlying23 rfl (by kernel_rfl)) rfl ⟨rfl, st9.below w.heap.size w (by omega) B⟩
      | true =>
        cases q2 with
        | false =>
          have x0 := X.out.cell 0 rfl
          have x1 := X.out.cell 1 rfl
          have x2 := X.out.cell 2 rfl
          have x3 := X.out.cell 3 rfl
          have y0 := Y.out.cell 0 rfl
          have y1 := Y.out.cell 1 rfl
          have y2 := Y.out.cell 2 rfl
          have y3 := Y.out.cell 3 rfl
          have fx0 := X.out.frozen 0
          have fx1 := X.out.frozen 1
          have fx2 := X.out.frozen 2
          have fx3 := X.out.frozen 3
          go_upto_region 2 with fail
          clear x0 x1 x2 x3 y0 y1 y2 y3 fx0 fx1 fx2 fx3
          have hKS : Keeps (fun w' => Box w' (w.heap.size + 1) 23 #[.bool true, .int .i64 f2, .bool false, .int .i64 t2]) := fun w w' h b => h.after b
          refine wp_region_U (w := u0) (fun w' => Box w' (w.heap.size + 1) 23 #[.bool true, .int .i64 f2, .bool false, .int .i64 t2]) rfl Y.out.drew ?_
          refine wpU_val 0 hKS rfl (by kernel_rfl) (by kernel_rfl) (by kernel_rfl) rfl (fun _ _ _ _ h => h) (.pointer (some ⟨w.heap.size + 1, 0, none⟩)) (fun w' h => by simp [go_sem]) ?_
          simp only [Act.put, List.setIfInBounds_toArray, List.set_cons_zero, List.set_cons_succ]
          refine wpU_val 1 hKS rfl (by kernel_rfl) (by kernel_rfl) (by kernel_rfl) rfl (fun _ _ _ _ h => h) (.bool true) (fun w' h => by simp [go_sem, h.cell 0 rfl]) ?_
          simp only [Act.put, List.setIfInBounds_toArray, List.set_cons_zero, List.set_cons_succ]
          refine wpU_val 2 hKS rfl (by kernel_rfl) (by kernel_rfl) (by kernel_rfl) rfl (fun _ _ _ _ h => h) (.pointer (some ⟨w.heap.size + 1, 1, none⟩)) (fun w' h => by simp [go_sem]) ?_
          simp only [Act.put, List.setIfInBounds_toArray, List.set_cons_zero, List.set_cons_succ]
          refine wpU_val 3 hKS rfl (by kernel_rfl) (by kernel_rfl) (by kernel_rfl) rfl (fun _ _ _ _ h => h) (.int .i64 f2) (fun w' h => by simp [go_sem, h.cell 1 rfl]) ?_
          simp only [Act.put, List.setIfInBounds_toArray, List.set_cons_zero, List.set_cons_succ]
          refine wpU_val 4 hKS rfl (by kernel_rfl) (by kernel_rfl) (by kernel_rfl) rfl (fun _ _ _ _ h => h) (.pointer (some ⟨w.heap.size, 0, none⟩)) (fun w' h => by simp [go_sem]) ?_
          simp only [Act.put, List.setIfInBounds_toArray, List.set_cons_zero, List.set_cons_succ]
          refine wpU_one 5 rfl (by kernel_rfl) rfl ?_
          intro w5 b5 s5
          have b5' : Below u0.heap.size u0 w5 := (Below.refl _ u0).drew.trans b5
          have X5 := X.out.after b5'
          refine wp_store_bool 4 _ _ rfl rfl rfl (X5.cell 0 rfl) (X5.frozen 0) (fun w => by simp [go_sem]) ?_
          have X6 := X5.set 0 (.bool true)
          have e6 : But (fun k => k = w.heap.size) w5 (w5.setCell ⟨w.heap.size, 0, none⟩ (.bool true)) := (But.refl (fun k => k = w.heap.size) w5).setCell (p := ⟨w.heap.size, 0, none⟩) (.inl rfl) _
          refine ⟨e6.box s5 (by omega), ?_⟩
          simp only [Act.put, List.setIfInBounds_toArray, List.set_cons_zero, List.set_cons_succ]
          generalize (w5.setCell ⟨w.heap.size, 0, none⟩ (.bool true)) = w6 at *
          refine wpU_val 6 hKS rfl (by kernel_rfl) (by kernel_rfl) (by kernel_rfl) rfl (fun _ _ _ _ h => h) (.pointer (some ⟨w.heap.size, 1, none⟩)) (fun w' h => by simp [go_sem]) ?_
          simp only [Act.put, List.setIfInBounds_toArray, List.set_cons_zero, List.set_cons_succ]
          refine wpU_one 7 rfl (by kernel_rfl) rfl ?_
          intro w7 b7 s7
          have X7 := X6.after b7
          refine wp_store_i64 2 _ _ rfl rfl rfl (X7.cell 1 rfl) (X7.frozen 1) (fun w => by simp [go_sem]) ?_
          have X8 := X7.set 1 (.int .i64 f2)
          have e8 : But (fun k => k = w.heap.size) w7 (w7.setCell ⟨w.heap.size, 1, none⟩ (.int .i64 f2)) := (But.refl (fun k => k = w.heap.size) w7).setCell (p := ⟨w.heap.size, 1, none⟩) (.inl rfl) _
          refine ⟨e8.box s7 (by omega), ?_⟩
          simp only [Act.put, List.setIfInBounds_toArray, List.set_cons_zero, List.set_cons_succ]
          generalize (w7.setCell ⟨w.heap.size, 1, none⟩ (.int .i64 f2)) = w8 at *
          refine wpU_done (by kernel_rfl) ?_
          intro u1 b9 s9
          have E9 : But (fun k => k = w.heap.size) u0 u1 := (((But.ofBelow b5').trans e6 (fun k hk => .inl hk)).trans ((But.ofBelow (S := fun _ => False) b7)) (fun _ h => h.elim)).trans (e8.trans (But.ofBelow (S := fun _ => False) b9) (fun _ h => h.elim)) (fun k hk => .inl hk)
          replace X := Lib.hid (X8.after b9)
          replace Y := Lib.hid s9
          replace R := Lib.hid (E9.box R.out (by omega))
          replace B := E9.after B B.size (fun k hk => by omega)
          clear hKS b5 b5' s5 X5 X6 e6 b7 s7 X7 X8 e8 b9 s9 E9
          have x0 := X.out.cell 0 rfl
          have x1 := X.out.cell 1 rfl
          have x2 := X.out.cell 2 rfl
          have x3 := X.out.cell 3 rfl
          have y0 := Y.out.cell 0 rfl
          have y1 := Y.out.cell 1 rfl
          have y2 := Y.out.cell 2 rfl
          have y3 := Y.out.cell 3 rfl
          have fx0 := X.out.frozen 0
          have fx1 := X.out.frozen 1
          have fx2 := X.out.frozen 2
          have fx3 := X.out.frozen 3
          go_upto_region 5 with fail
          go_upto_region 9 with fail
          clear x0 x1 x2 x3 y0 y1 y2 y3 fx0 fx1 fx2 fx3
          go_wp2_with first | (refine wpList_load_box rfl 23 _ rfl X.out (by rfl) Tryd.underlying23 rfl (by kernel_rfl) ?_) | (refine wpList_store_box (cells := #[.bool true, .int .i64 f2, .bool true, .int .i64 t]) rfl 23 _ _ rfl R.out (by rfl) (by rfl) rfl (by kernel_rfl) (by simp [Value.oneCell']) ?_; intro u9 X9 st9)
          exact bodyPost_ret (v := .agg #[.bool true, .int .i64 f2, .bool true, .int .i64 t]) (box_result rfl _ _ (by rfl) X9 Tryd.underlying23 rfl (by kernel_rfl)) rfl ⟨rfl, st9.below w.heap.size w (by omega) B⟩
        | true =>
          have x0 := X.out.cell 0 rfl
          have x1 := X.out.cell 1 rfl
          have x2 := X.out.cell 2 rfl
          have x3 := X.out.cell 3 rfl
          have y0 := Y.out.cell 0 rfl
          have y1 := Y.out.cell 1 rfl
          have y2 := Y.out.cell 2 rfl
          have y3 := Y.out.cell 3 rfl
          have fx0 := X.out.frozen 0
          have fx1 := X.out.frozen 1
          have fx2 := X.out.frozen 2
          have fx3 := X.out.frozen 3
          go_upto_region 2 with fail
          clear x0 x1 x2 x3 y0 y1 y2 y3 fx0 fx1 fx2 fx3
          have hKS : Keeps (fun w' => Box w' (w.heap.size + 1) 23 #[.bool true, .int .i64 f2, .bool true, .int .i64 t2]) := fun w w' h b => h.after b
          refine wp_region_U (w := u0) (fun w' => Box w' (w.heap.size + 1) 23 #[.bool true, .int .i64 f2, .bool true, .int .i64 t2]) rfl Y.out.drew ?_
          refine wpU_val 0 hKS rfl (by kernel_rfl) (by kernel_rfl) (by kernel_rfl) rfl (fun _ _ _ _ h => h) (.pointer (some ⟨w.heap.size + 1, 0, none⟩)) (fun w' h => by simp [go_sem]) ?_
          simp only [Act.put, List.setIfInBounds_toArray, List.set_cons_zero, List.set_cons_succ]
          refine wpU_val 1 hKS rfl (by kernel_rfl) (by kernel_rfl) (by kernel_rfl) rfl (fun _ _ _ _ h => h) (.bool true) (fun w' h => by simp [go_sem, h.cell 0 rfl]) ?_
          simp only [Act.put, List.setIfInBounds_toArray, List.set_cons_zero, List.set_cons_succ]
          refine wpU_val 2 hKS rfl (by kernel_rfl) (by kernel_rfl) (by kernel_rfl) rfl (fun _ _ _ _ h => h) (.pointer (some ⟨w.heap.size + 1, 1, none⟩)) (fun w' h => by simp [go_sem]) ?_
          simp only [Act.put, List.setIfInBounds_toArray, List.set_cons_zero, List.set_cons_succ]
          refine wpU_val 3 hKS rfl (by kernel_rfl) (by kernel_rfl) (by kernel_rfl) rfl (fun _ _ _ _ h => h) (.int .i64 f2) (fun w' h => by simp [go_sem, h.cell 1 rfl]) ?_
          simp only [Act.put, List.setIfInBounds_toArray, List.set_cons_zero, List.set_cons_succ]
          refine wpU_val 4 hKS rfl (by kernel_rfl) (by kernel_rfl) (by kernel_rfl) rfl (fun _ _ _ _ h => h) (.pointer (some ⟨w.heap.size, 0, none⟩)) (fun w' h => by simp [go_sem]) ?_
          simp only [Act.put, List.setIfInBounds_toArray, List.set_cons_zero, List.set_cons_succ]
          refine wpU_one 5 rfl (by kernel_rfl) rfl ?_
          intro w5 b5 s5
          have b5' : Below u0.heap.size u0 w5 := (Below.refl _ u0).drew.trans b5
          have X5 := X.out.after b5'
          refine wp_store_bool 4 _ _ rfl rfl rfl (X5.cell 0 rfl) (X5.frozen 0) (fun w => by simp [go_sem]) ?_
          have X6 := X5.set 0 (.bool true)
          have e6 : But (fun k => k = w.heap.size) w5 (w5.setCell ⟨w.heap.size, 0, none⟩ (.bool true)) := (But.refl (fun k => k = w.heap.size) w5).setCell (p := ⟨w.heap.size, 0, none⟩) (.inl rfl) _
          refine ⟨e6.box s5 (by omega), ?_⟩
          simp only [Act.put, List.setIfInBounds_toArray, List.set_cons_zero, List.set_cons_succ]
          generalize (w5.setCell ⟨w.heap.size, 0, none⟩ (.bool true)) = w6 at *
          refine wpU_val 6 hKS rfl (by kernel_rfl) (by kernel_rfl) (by kernel_rfl) rfl (fun _ _ _ _ h => h) (.pointer (some ⟨w.heap.size, 1, none⟩)) (fun w' h => by simp [go_sem]) ?_
          simp only [Act.put, List.setIfInBounds_toArray, List.set_cons_zero, List.set_cons_succ]
          refine wpU_one 7 rfl (by kernel_rfl) rfl ?_
          intro w7 b7 s7
          have X7 := X6.after b7
          refine wp_store_i64 2 _ _ rfl rfl rfl (X7.cell 1 rfl) (X7.frozen 1) (fun w => by simp [go_sem]) ?_
          have X8 := X7.set 1 (.int .i64 f2)
          have e8 : But (fun k => k = w.heap.size) w7 (w7.setCell ⟨w.heap.size, 1, none⟩ (.int .i64 f2)) := (But.refl (fun k => k = w.heap.size) w7).setCell (p := ⟨w.heap.size, 1, none⟩) (.inl rfl) _
          refine ⟨e8.box s7 (by omega), ?_⟩
          simp only [Act.put, List.setIfInBounds_toArray, List.set_cons_zero, List.set_cons_succ]
          generalize (w7.setCell ⟨w.heap.size, 1, none⟩ (.int .i64 f2)) = w8 at *
          refine wpU_done (by kernel_rfl) ?_
          intro u1 b9 s9
          have E9 : But (fun k => k = w.heap.size) u0 u1 := (((But.ofBelow b5').trans e6 (fun k hk => .inl hk)).trans ((But.ofBelow (S := fun _ => False) b7)) (fun _ h => h.elim)).trans (e8.trans (But.ofBelow (S := fun _ => False) b9) (fun _ h => h.elim)) (fun k hk => .inl hk)
          replace X := Lib.hid (X8.after b9)
          replace Y := Lib.hid s9
          replace R := Lib.hid (E9.box R.out (by omega))
          replace B := E9.after B B.size (fun k hk => by omega)
          clear hKS b5 b5' s5 X5 X6 e6 b7 s7 X7 X8 e8 b9 s9 E9
          have x0 := X.out.cell 0 rfl
          have x1 := X.out.cell 1 rfl
          have x2 := X.out.cell 2 rfl
          have x3 := X.out.cell 3 rfl
          have y0 := Y.out.cell 0 rfl
          have y1 := Y.out.cell 1 rfl
          have y2 := Y.out.cell 2 rfl
          have y3 := Y.out.cell 3 rfl
          have fx0 := X.out.frozen 0
          have fx1 := X.out.frozen 1
          have fx2 := X.out.frozen 2
          have fx3 := X.out.frozen 3
          go_upto_region 5 with fail
          go_upto_region 9 with fail
          replace X := Lib.hid (X.out.set 3 (.int .i64 (min t t2)))
          replace Y := Lib.hid (Y.out.far ⟨w.heap.size, 3, none⟩ (.int .i64 (min t t2)) (by show w.heap.size + 1 ≠ w.heap.size; omega))
          replace R := Lib.hid (R.out.far ⟨w.heap.size, 3, none⟩ (.int .i64 (min t t2)) (by show w.heap.size + 1 + 1 ≠ w.heap.size; omega))
          replace B := B.setCell (p := ⟨w.heap.size, 3, none⟩) (Nat.le_refl _) (.int .i64 (min t t2))
          clear x0 x1 x2 x3 y0 y1 y2 y3 fx0 fx1 fx2 fx3
          change Code.wp _ _ _ _ (u1.setCell ⟨w.heap.size, 3, none⟩ (.int .i64 (min t t2)))
          generalize (u1.setCell ⟨w.heap.size, 3, none⟩ (.int .i64 (min t t2))) = u2 at *
          go_wp2_with first | (refine wpList_load_box rfl 23 _ rfl X.out (by rfl) Tryd.underlying23 rfl (by kernel_rfl) ?_) | (refine wpList_store_box (cells := #[.bool true, .int .i64 f2, .bool true, .int .i64 (min t t2)]) rfl 23 _ _ rfl R.out (by rfl) (by rfl) rfl (by kernel_rfl) (by simp [Value.oneCell']) ?_; intro u9 X9 st9)
          exact bodyPost_ret (v := .agg #[.bool true, .int .i64 f2, .bool true, .int .i64 (min t t2)]) (box_result rfl _ _ (by rfl) X9 Tryd.underlying23 rfl (by kernel_rfl)) rfl ⟨rfl, st9.below w.heap.size w (by omega) B⟩
  | true =>
    cases p2 with
    | false =>
      cases q with
      | false =>
        cases q2 with
        | false =>
          have x0 := X.out.cell 0 rfl
          have x1 := X.out.cell 1 rfl
          have x2 := X.out.cell 2 rfl
          have x3 := X.out.cell 3 rfl
          have y0 := Y.out.cell 0 rfl
          have y1 := Y.out.cell 1 rfl
          have y2 := Y.out.cell 2 rfl
          have y3 := Y.out.cell 3 rfl
          have fx0 := X.out.frozen 0
          have fx1 := X.out.frozen 1
          have fx2 := X.out.frozen 2
          have fx3 := X.out.frozen 3
          go_upto_region 5 with fail
          clear x0 x1 x2 x3 y0 y1 y2 y3 fx0 fx1 fx2 fx3
          have x0 := X.out.cell 0 rfl
          have x1 := X.out.cell 1 rfl
          have x2 := X.out.cell 2 rfl
          have x3 := X.out.cell 3 rfl
          have y0 := Y.out.cell 0 rfl
          have y1 := Y.out.cell 1 rfl
          have y2 := Y.out.cell 2 rfl
          have y3 := Y.out.cell 3 rfl
          have fx0 := X.out.frozen 0
          have fx1 := X.out.frozen 1
          have fx2 := X.out.frozen 2
          have fx3 := X.out.frozen 3
          go_upto_region 6 with fail
          clear x0 x1 x2 x3 y0 y1 y2 y3 fx0 fx1 fx2 fx3
          have hKS : Keeps (fun w' => Box w' (w.heap.size + 1) 23 #[.bool false, .int .i64 f2, .bool false, .int .i64 t2]) := fun w w' h b => h.after b
          refine wp_region_U (w := u0) (fun w' => Box w' (w.heap.size + 1) 23 #[.bool false, .int .i64 f2, .bool false, .int .i64 t2]) rfl Y.out.drew ?_
          refine wpU_val 0 hKS rfl (by kernel_rfl) (by kernel_rfl) (by kernel_rfl) rfl (fun _ _ _ _ h => h) (.pointer (some ⟨w.heap.size + 1, 2, none⟩)) (fun w' h => by simp [go_sem]) ?_
          simp only [Act.put, List.setIfInBounds_toArray, List.set_cons_zero, List.set_cons_succ]
          refine wpU_val 1 hKS rfl (by kernel_rfl) (by kernel_rfl) (by kernel_rfl) rfl (fun _ _ _ _ h => h) (.bool false) (fun w' h => by simp [go_sem, h.cell 2 rfl]) ?_
          simp only [Act.put, List.setIfInBounds_toArray, List.set_cons_zero, List.set_cons_succ]
          refine wpU_val 2 hKS rfl (by kernel_rfl) (by kernel_rfl) (by kernel_rfl) rfl (fun _ _ _ _ h => h) (.pointer (some ⟨w.heap.size + 1, 3, none⟩)) (fun w' h => by simp [go_sem]) ?_
          simp only [Act.put, List.setIfInBounds_toArray, List.set_cons_zero, List.set_cons_succ]
          refine wpU_val 3 hKS rfl (by kernel_rfl) (by kernel_rfl) (by kernel_rfl) rfl (fun _ _ _ _ h => h) (.int .i64 t2) (fun w' h => by simp [go_sem, h.cell 3 rfl]) ?_
          simp only [Act.put, List.setIfInBounds_toArray, List.set_cons_zero, List.set_cons_succ]
          refine wpU_val 4 hKS rfl (by kernel_rfl) (by kernel_rfl) (by kernel_rfl) rfl (fun _ _ _ _ h => h) (.pointer (some ⟨w.heap.size, 2, none⟩)) (fun w' h => by simp [go_sem]) ?_
          simp only [Act.put, List.setIfInBounds_toArray, List.set_cons_zero, List.set_cons_succ]
          refine wpU_one 5 rfl (by kernel_rfl) rfl ?_
          intro w5 b5 s5
          have b5' : Below u0.heap.size u0 w5 := (Below.refl _ u0).drew.trans b5
          have X5 := X.out.after b5'
          refine wp_store_bool 4 _ _ rfl rfl rfl (X5.cell 2 rfl) (X5.frozen 2) (fun w => by simp [go_sem]) ?_
          have X6 := X5.set 2 (.bool false)
          have e6 : But (fun k => k = w.heap.size) w5 (w5.setCell ⟨w.heap.size, 2, none⟩ (.bool false)) := (But.refl (fun k => k = w.heap.size) w5).setCell (p := ⟨w.heap.size, 2, none⟩) (.inl rfl) _
          refine ⟨e6.box s5 (by omega), ?_⟩
          simp only [Act.put, List.setIfInBounds_toArray, List.set_cons_zero, List.set_cons_succ]
          generalize (w5.setCell ⟨w.heap.size, 2, none⟩ (.bool false)) = w6 at *
          refine wpU_val 6 hKS rfl (by kernel_rfl) (by kernel_rfl) (by kernel_rfl) rfl (fun _ _ _ _ h => h) (.pointer (some ⟨w.heap.size, 3, none⟩)) (fun w' h => by simp [go_sem]) ?_
          simp only [Act.put, List.setIfInBounds_toArray, List.set_cons_zero, List.set_cons_succ]
          refine wpU_one 7 rfl (by kernel_rfl) rfl ?_
          intro w7 b7 s7
          have X7 := X6.after b7
          refine wp_store_i64 2 _ _ rfl rfl rfl (X7.cell 3 rfl) (X7.frozen 3) (fun w => by simp [go_sem]) ?_
          have X8 := X7.set 3 (.int .i64 t2)
          have e8 : But (fun k => k = w.heap.size) w7 (w7.setCell ⟨w.heap.size, 3, none⟩ (.int .i64 t2)) := (But.refl (fun k => k = w.heap.size) w7).setCell (p := ⟨w.heap.size, 3, none⟩) (.inl rfl) _
          refine ⟨e8.box s7 (by omega), ?_⟩
          simp only [Act.put, List.setIfInBounds_toArray, List.set_cons_zero, List.set_cons_succ]
          generalize (w7.setCell ⟨w.heap.size, 3, none⟩ (.int .i64 t2)) = w8 at *
          refine wpU_done (by kernel_rfl) ?_
          intro u2 b9 s9
          have E9 : But (fun k => k = w.heap.size) u0 u2 := (((But.ofBelow b5').trans e6 (fun k hk => .inl hk)).trans ((But.ofBelow (S := fun _ => False) b7)) (fun _ h => h.elim)).trans (e8.trans (But.ofBelow (S := fun _ => False) b9) (fun _ h => h.elim)) (fun k hk => .inl hk)
          replace X := Lib.hid (X8.after b9)
          replace Y := Lib.hid s9
          replace R := Lib.hid (E9.box R.out (by omega))
          replace B := E9.after B B.size (fun k hk => by omega)
          clear hKS b5 b5' s5 X5 X6 e6 b7 s7 X7 X8 e8 b9 s9 E9
          go_wp2_with first | (refine wpList_load_box rfl 23 _ rfl X.out (by rfl) Tryd.underlying23 rfl (by kernel_rfl) ?_) | (refine wpList_store_box (cells := #[.bool true, .int .i64 f, .bool false, .int .i64 t2]) rfl 23 _ _ rfl R.out (by rfl) (by rfl) rfl (by kernel_rfl) (by simp [Value.oneCell']) ?_; intro u9 X9 st9)
          exact bodyPost_ret (v := .agg #[.bool true, .int .i64 f, .bool false, .int .i64 t2]) (box_result rfl _ _ (by rfl) X9 Tryd.underlying23 rfl (by kernel_rfl)) rfl ⟨rfl, st9.below w.heap.size w (by omega) B⟩
        | true =>
          have x0 := X.out.cell 0 rfl
          have x1 := X.out.cell 1 rfl
          have x2 := X.out.cell 2 rfl
          have x3 := X.out.cell 3 rfl
          have y0 := Y.out.cell 0 rfl
          have y1 := Y.out.cell 1 rfl
          have y2 := Y.out.cell 2 rfl
          have y3 := Y.out.cell 3 rfl
          have fx0 := X.out.frozen 0
          have fx1 := X.out.frozen 1
          have fx2 := X.out.frozen 2
          have fx3 := X.out.frozen 3
          go_upto_region 5 with fail
          clear x0 x1 x2 x3 y0 y1 y2 y3 fx0 fx1 fx2 fx3
          have x0 := X.out.cell 0 rfl
          have x1 := X.out.cell 1 rfl
          have x2 := X.out.cell 2 rfl
          have x3 := X.out.cell 3 rfl
          have y0 := Y.out.cell 0 rfl
          have y1 := Y.out.cell 1 rfl
          have y2 := Y.out.cell 2 rfl
          have y3 := Y.out.cell 3 rfl
          have fx0 := X.out.frozen 0
          have fx1 := X.out.frozen 1
          have fx2 := X.out.frozen 2
          have fx3 := X.out.frozen 3
          go_upto_region 6 with fail
          clear x0 x1 x2 x3 y0 y1 y2 y3 fx0 fx1 fx2 fx3
          have hKS : Keeps (fun w' => Box w' (w.heap.size + 1) 23 #[.bool false, .int .i64 f2, .bool true, .int .i64 t2]) := fun w w' h b => h.after b
          refine wp_region_U (w := u0) (fun w' => Box w' (w.heap.size + 1) 23 #[.bool false, .int .i64 f2, .bool true, .int .i64 t2]) rfl Y.out.drew ?_
          refine wpU_val 0 hKS rfl (by kernel_rfl) (by kernel_rfl) (by kernel_rfl) rfl (fun _ _ _ _ h => h) (.pointer (some ⟨w.heap.size + 1, 2, none⟩)) (fun w' h => by simp [go_sem]) ?_
          simp only [Act.put, List.setIfInBounds_toArray, List.set_cons_zero, List.set_cons_succ]
          refine wpU_val 1 hKS rfl (by kernel_rfl) (by kernel_rfl) (by kernel_rfl) rfl (fun _ _ _ _ h => h) (.bool true) (fun w' h => by simp [go_sem, h.cell 2 rfl]) ?_
          simp only [Act.put, List.setIfInBounds_toArray, List.set_cons_zero, List.set_cons_succ]
          refine wpU_val 2 hKS rfl (by kernel_rfl) (by kernel_rfl) (by kernel_rfl) rfl (fun _ _ _ _ h => h) (.pointer (some ⟨w.heap.size + 1, 3, none⟩)) (fun w' h => by simp [go_sem]) ?_
          simp only [Act.put, List.setIfInBounds_toArray, List.set_cons_zero, List.set_cons_succ]
          refine wpU_val 3 hKS rfl (by kernel_rfl) (by kernel_rfl) (by kernel_rfl) rfl (fun _ _ _ _ h => h) (.int .i64 t2) (fun w' h => by simp [go_sem, h.cell 3 rfl]) ?_
          simp only [Act.put, List.setIfInBounds_toArray, List.set_cons_zero, List.set_cons_succ]
          refine wpU_val 4 hKS rfl (by kernel_rfl) (by kernel_rfl) (by kernel_rfl) rfl (fun _ _ _ _ h => h) (.pointer (some ⟨w.heap.size, 2, none⟩)) (fun w' h => by simp [go_sem]) ?_
          simp only [Act.put, List.setIfInBounds_toArray, List.set_cons_zero, List.set_cons_succ]
          refine wpU_one 5 rfl (by kernel_rfl) rfl ?_
          intro w5 b5 s5
          have b5' : Below u0.heap.size u0 w5 := (Below.refl _ u0).drew.trans b5
          have X5 := X.out.after b5'
          refine wp_store_bool 4 _ _ rfl rfl rfl (X5.cell 2 rfl) (X5.frozen 2) (fun w => by simp [go_sem]) ?_
          have X6 := X5.set 2 (.bool true)
          have e6 : But (fun k => k = w.heap.size) w5 (w5.setCell ⟨w.heap.size, 2, none⟩ (.bool true)) := (But.refl (fun k => k = w.heap.size) w5).setCell (p := ⟨w.heap.size, 2, none⟩) (.inl rfl) _
          refine ⟨e6.box s5 (by omega), ?_⟩
          simp only [Act.put, List.setIfInBounds_toArray, List.set_cons_zero, List.set_cons_succ]
          generalize (w5.setCell ⟨w.heap.size, 2, none⟩ (.bool true)) = w6 at *
          refine wpU_val 6 hKS rfl (by kernel_rfl) (by kernel_rfl) (by kernel_rfl) rfl (fun _ _ _ _ h => h) (.pointer (some ⟨w.heap.size, 3, none⟩)) (fun w' h => by simp [go_sem]) ?_
          simp only [Act.put, List.setIfInBounds_toArray, List.set_cons_zero, List.set_cons_succ]
          refine wpU_one 7 rfl (by kernel_rfl) rfl ?_
          intro w7 b7 s7
          have X7 := X6.after b7
          refine wp_store_i64 2 _ _ rfl rfl rfl (X7.cell 3 rfl) (X7.frozen 3) (fun w => by simp [go_sem]) ?_
          have X8 := X7.set 3 (.int .i64 t2)
          have e8 : But (fun k => k = w.heap.size) w7 (w7.setCell ⟨w.heap.size, 3, none⟩ (.int .i64 t2)) := (But.refl (fun k => k = w.heap.size) w7).setCell (p := ⟨w.heap.size, 3, none⟩) (.inl rfl) _
          refine ⟨e8.box s7 (by omega), ?_⟩
          simp only [Act.put, List.setIfInBounds_toArray, List.set_cons_zero, List.set_cons_succ]
          generalize (w7.setCell ⟨w.heap.size, 3, none⟩ (.int .i64 t2)) = w8 at *
          refine wpU_done (by kernel_rfl) ?_
          intro u2 b9 s9
          have E9 : But (fun k => k = w.heap.size) u0 u2 := (((But.ofBelow b5').trans e6 (fun k hk => .inl hk)).trans ((But.ofBelow (S := fun _ => False) b7)) (fun _ h => h.elim)).trans (e8.trans (But.ofBelow (S := fun _ => False) b9) (fun _ h => h.elim)) (fun k hk => .inl hk)
          replace X := Lib.hid (X8.after b9)
          replace Y := Lib.hid s9
          replace R := Lib.hid (E9.box R.out (by omega))
          replace B := E9.after B B.size (fun k hk => by omega)
          clear hKS b5 b5' s5 X5 X6 e6 b7 s7 X7 X8 e8 b9 s9 E9
          go_wp2_with first | (refine wpList_load_box rfl 23 _ rfl X.out (by rfl) Tryd.underlying23 rfl (by kernel_rfl) ?_) | (refine wpList_store_box (cells := #[.bool true, .int .i64 f, .bool true, .int .i64 t2]) rfl 23 _ _ rfl R.out (by rfl) (by rfl) rfl (by kernel_rfl) (by simp [Value.oneCell']) ?_; intro u9 X9 st9)
          exact bodyPost_ret (v := .agg #[.bool true, .int .i64 f, .bool true, .int .i64 t2]) (box_result rfl _ _ (by rfl) X9 Tryd.underlying23 rfl (by kernel_rfl)) rfl ⟨rfl, st9.below w.heap.size w (by omega) B⟩
      | true =>
        cases q2 with
        | false =>
          have x0 := X.out.cell 0 rfl
          have x1 := X.out.cell 1 rfl
          have x2 := X.out.cell 2 rfl
          have x3 := X.out.cell 3 rfl
          have y0 := Y.out.cell 0 rfl
          have y1 := Y.out.cell 1 rfl
          have y2 := Y.out.cell 2 rfl
          have y3 := Y.out.cell 3 rfl
          have fx0 := X.out.frozen 0
          have fx1 := X.out.frozen 1
          have fx2 := X.out.frozen 2
          have fx3 := X.out.frozen 3
          go_upto_region 5 with fail
          clear x0 x1 x2 x3 y0 y1 y2 y3 fx0 fx1 fx2 fx3
          have x0 := X.out.cell 0 rfl
          have x1 := X.out.cell 1 rfl
          have x2 := X.out.cell 2 rfl
          have x3 := X.out.cell 3 rfl
          have y0 := Y.out.cell 0 rfl
          have y1 := Y.out.cell 1 rfl
          have y2 := Y.out.cell 2 rfl
          have y3 := Y.out.cell 3 rfl
          have fx0 := X.out.frozen 0
          have fx1 := X.out.frozen 1
          have fx2 := X.out.frozen 2
          have fx3 := X.out.frozen 3
          go_upto_region 9 with fail
          clear x0 x1 x2 x3 y0 y1 y2 y3 fx0 fx1 fx2 fx3
          go_wp2_with first | (refine wpList_load_box rfl 23 _ rfl X.out (by rfl) Tryd.underlying23 rfl (by kernel_rfl) ?_) | (refine wpList_store_box (cells := #[.bool true, .int .i64 f, .bool true, .int .i64 t]) rfl 23 _ _ rfl R.out (by rfl) (by rfl) rfl (by kernel_rfl) (by simp [Value.oneCell']) ?_; intro u9 X9 st9)
          exact bodyPost_ret (v := .agg #[.bool true, .int .i64 f, .bool true, .int .i64 t]) (box_result rfl _ _ (by rfl) X9 Tryd.underlying23 rfl (by kernel_rfl)) rfl ⟨rfl, st9.below w.heap.size w (by omega) B⟩
        | true =>
          have x0 := X.out.cell 0 rfl
          have x1 := X.out.cell 1 rfl
          have x2 := X.out.cell 2 rfl
          have x3 := X.out.cell 3 rfl
          have y0 := Y.out.cell 0 rfl
          have y1 := Y.out.cell 1 rfl
          have y2 := Y.out.cell 2 rfl
          have y3 := Y.out.cell 3 rfl
          have fx0 := X.out.frozen 0
          have fx1 := X.out.frozen 1
          have fx2 := X.out.frozen 2
          have fx3 := X.out.frozen 3
          go_upto_region 5 with fail
          clear x0 x1 x2 x3 y0 y1 y2 y3 fx0 fx1 fx2 fx3
          have x0 := X.out.cell 0 rfl
          have x1 := X.out.cell 1 rfl
          have x2 := X.out.cell 2 rfl
          have x3 := X.out.cell 3 rfl
          have y0 := Y.out.cell 0 rfl
          have y1 := Y.out.cell 1 rfl
          have y2 := Y.out.cell 2 rfl
          have y3 := Y.out.cell 3 rfl
          have fx0 := X.out.frozen 0
          have fx1 := X.out.frozen 1
          have fx2 := X.out.frozen 2
          have fx3 := X.out.frozen 3
          go_upto_region 9 with fail
          replace X := Lib.hid (X.out.set 3 (.int .i64 (min t t2)))
          replace Y := Lib.hid (Y.out.far ⟨w.heap.size, 3, none⟩ (.int .i64 (min t t2)) (by show w.heap.size + 1 ≠ w.heap.size; omega))
          replace R := Lib.hid (R.out.far ⟨w.heap.size, 3, none⟩ (.int .i64 (min t t2)) (by show w.heap.size + 1 + 1 ≠ w.heap.size; omega))
          replace B := B.setCell (p := ⟨w.heap.size, 3, none⟩) (Nat.le_refl _) (.int .i64 (min t t2))
          clear x0 x1 x2 x3 y0 y1 y2 y3 fx0 fx1 fx2 fx3
          change Code.wp _ _ _ _ (u0.setCell ⟨w.heap.size, 3, none⟩ (.int .i64 (min t t2)))
          generalize (u0.setCell ⟨w.heap.size, 3, none⟩ (.int .i64 (min t t2))) = u2 at *
          go_wp2_with first | (refine wpList_load_box rfl 23 _ rfl X.out (by rfl) Tryd.underlying23 rfl (by kernel_rfl) ?_) | (refine wpList_store_box (cells := #[.bool true, .int .i64 f, .bool true, .int .i64 (min t t2)]) rfl 23 _ _ rfl R.out (by rfl) (by rfl) rfl (by kernel_rfl) (by simp [Value.oneCell']) ?_; intro u9 X9 st9)
          exact bodyPost_ret (v := .agg #[.bool true, .int .i64 f, .bool true, .int .i64 (min t t2)]) (box_result rfl _ _ (by rfl) X9 Tryd.underlying23 rfl (by kernel_rfl)) rfl ⟨rfl, st9.below w.heap.size w (by omega) B⟩
    | true =>
      cases q with
      | false =>
        cases q2 with
        | false =>
          have x0 := X.out.cell 0 rfl
          have x1 := X.out.cell 1 rfl
          have x2 := X.out.cell 2 rfl
          have x3 := X.out.cell 3 rfl
          have y0 := Y.out.cell 0 rfl
          have y1 := Y.out.cell 1 rfl
          have y2 := Y.out.cell 2 rfl
          have y3 := Y.out.cell 3 rfl
          have fx0 := X.out.frozen 0
          have fx1 := X.out.frozen 1
          have fx2 := X.out.frozen 2
          have fx3 := X.out.frozen 3
          go_upto_region 5 with fail
          replace X := Lib.hid (X.out.set 1 (.int .i64 (max f f2)))
          replace Y := Lib.hid (Y.out.far ⟨w.heap.size, 1, none⟩ (.int .i64 (max f f2)) (by show w.heap.size + 1 ≠ w.heap.size; omega))
          replace R := Lib.hid (R.out.far ⟨w.heap.size, 1, none⟩ (.int .i64 (max f f2)) (by show w.heap.size + 1 + 1 ≠ w.heap.size; omega))
          replace B := B.setCell (p := ⟨w.heap.size, 1, none⟩) (Nat.le_refl _) (.int .i64 (max f f2))
          clear x0 x1 x2 x3 y0 y1 y2 y3 fx0 fx1 fx2 fx3
          change Code.wp _ _ _ _ (u0.setCell ⟨w.heap.size, 1, none⟩ (.int .i64 (max f f2)))
          generalize (u0.setCell ⟨w.heap.size, 1, none⟩ (.int .i64 (max f f2))) = u1 at *
          have x0 := X.out.cell 0 rfl
          have x1 := X.out.cell 1 rfl
          have x2 := X.out.cell 2 rfl
          have x3 := X.out.cell 3 rfl
          have y0 := Y.out.cell 0 rfl
          have y1 := Y.out.cell 1 rfl
          have y2 := Y.out.cell 2 rfl
          have y3 := Y.out.cell 3 rfl
          have fx0 := X.out.frozen 0
          have fx1 := X.out.frozen 1
          have fx2 := X.out.frozen 2
          have fx3 := X.out.frozen 3
          go_upto_region 6 with fail
          clear x0 x1 x2 x3 y0 y1 y2 y3 fx0 fx1 fx2 fx3
          have hKS : Keeps (fun w' => Box w' (w.heap.size + 1) 23 #[.bool true, .int .i64 f2, .bool false, .int .i64 t2]) := fun w w' h b => h.after b
          refine wp_region_U (w := u1) (fun w' => Box w' (w.heap.size + 1) 23 #[.bool true, .int .i64 f2, .bool false, .int .i64 t2]) rfl Y.out.drew ?_
          refine wpU_val 0 hKS rfl (by kernel_rfl) (by kernel_rfl) (by kernel_rfl) rfl (fun _ _ _ _ h => h) (.pointer (some ⟨w.heap.size + 1, 2, none⟩)) (fun w' h => by simp [go_sem]) ?_
          simp only [Act.put, List.setIfInBounds_toArray, List.set_cons_zero, List.set_cons_succ]
          refine wpU_val 1 hKS rfl (by kernel_rfl) (by kernel_rfl) (by kernel_rfl) rfl (fun _ _ _ _ h => h) (.bool false) (fun w' h => by simp [go_sem, h.cell 2 rfl]) ?_
          simp only [Act.put, List.setIfInBounds_toArray, List.set_cons_zero, List.set_cons_succ]
          refine wpU_val 2 hKS rfl (by kernel_rfl) (by kernel_rfl) (by kernel_rfl) rfl (fun _ _ _ _ h => h) (.pointer (some ⟨w.heap.size + 1, 3, none⟩)) (fun w' h => by simp [go_sem]) ?_
          simp only [Act.put, List.setIfInBounds_toArray, List.set_cons_zero, List.set_cons_succ]
          refine wpU_val 3 hKS rfl (by kernel_rfl) (by kernel_rfl) (by kernel_rfl) rfl (fun _ _ _ _ h => h) (.int .i64 t2) (fun w' h => by simp [go_sem, h.cell 3 rfl]) ?_
          simp only [Act.put, List.setIfInBounds_toArray, List.set_cons_zero, List.set_cons_succ]
          refine wpU_val 4 hKS rfl (by kernel_rfl) (by kernel_rfl) (by kernel_rfl) rfl (fun _ _ _ _ h => h) (.pointer (some ⟨w.heap.size, 2, none⟩)) (fun w' h => by simp [go_sem]) ?_
          simp only [Act.put, List.setIfInBounds_toArray, List.set_cons_zero, List.set_cons_succ]
          refine wpU_one 5 rfl (by kernel_rfl) rfl ?_
          intro w5 b5 s5
          have b5' : Below u1.heap.size u1 w5 := (Below.refl _ u1).drew.trans b5
          have X5 := X.out.after b5'
          refine wp_store_bool 4 _ _ rfl rfl rfl (X5.cell 2 rfl) (X5.frozen 2) (fun w => by simp [go_sem]) ?_
          have X6 := X5.set 2 (.bool false)
          have e6 : But (fun k => k = w.heap.size) w5 (w5.setCell ⟨w.heap.size, 2, none⟩ (.bool false)) := (But.refl (fun k => k = w.heap.size) w5).setCell (p := ⟨w.heap.size, 2, none⟩) (.inl rfl) _
          refine ⟨e6.box s5 (by omega), ?_⟩
          simp only [Act.put, List.setIfInBounds_toArray, List.set_cons_zero, List.set_cons_succ]
          generalize (w5.setCell ⟨w.heap.size, 2, none⟩ (.bool false)) = w6 at *
          refine wpU_val 6 hKS rfl (by kernel_rfl) (by kernel_rfl) (by kernel_rfl) rfl (fun _ _ _ _ h => h) (.pointer (some ⟨w.heap.size, 3, none⟩)) (fun w' h => by simp [go_sem]) ?_
          simp only [Act.put, List.setIfInBounds_toArray, List.set_cons_zero, List.set_cons_succ]
          refine wpU_one 7 rfl (by kernel_rfl) rfl ?_
          intro w7 b7 s7
          have X7 := X6.after b7
          refine wp_store_i64 2 _ _ rfl rfl rfl (X7.cell 3 rfl) (X7.frozen 3) (fun w => by simp [go_sem]) ?_
          have X8 := X7.set 3 (.int .i64 t2)
          have e8 : But (fun k => k = w.heap.size) w7 (w7.setCell ⟨w.heap.size, 3, none⟩ (.int .i64 t2)) := (But.refl (fun k => k = w.heap.size) w7).setCell (p := ⟨w.heap.size, 3, none⟩) (.inl rfl) _
          refine ⟨e8.box s7 (by omega), ?_⟩
          simp only [Act.put, List.setIfInBounds_toArray, List.set_cons_zero, List.set_cons_succ]
          generalize (w7.setCell ⟨w.heap.size, 3, none⟩ (.int .i64 t2)) = w8 at *
          refine wpU_done (by kernel_rfl) ?_
          intro u2 b9 s9
          have E9 : But (fun k => k = w.heap.size) u1 u2 := (((But.ofBelow b5').trans e6 (fun k hk => .inl hk)).trans ((But.ofBelow (S := fun _ => False) b7)) (fun _ h => h.elim)).trans (e8.trans (But.ofBelow (S := fun _ => False) b9) (fun _ h => h.elim)) (fun k hk => .inl hk)
          replace X := Lib.hid (X8.after b9)
          replace Y := Lib.hid s9
          replace R := Lib.hid (E9.box R.out (by omega))
          replace B := E9.after B B.size (fun k hk => by omega)
          clear hKS b5 b5' s5 X5 X6 e6 b7 s7 X7 X8 e8 b9 s9 E9
          go_wp2_with first | (refine wpList_load_box rfl 23 _ rfl X.out (by rfl) Tryd.underlying23 rfl (by kernel_rfl) ?_) | (refine wpList_store_box (cells := #[.bool true, .int .i64 (max f f2), .bool false, .int .i64 t2]) rfl 23 _ _ rfl R.out (by rfl) (by rfl) rfl (by kernel_rfl) (by simp [Value.oneCell']) ?_; intro u9 X9 st9)
          exact bodyPost_ret (v := .agg #[.bool true, .int .i64 (max f f2), .bool false, .int .i64 t2]) (box_result rfl _ _ (by rfl) X9 Tryd.underlying23 rfl (by kernel_rfl)) rfl ⟨rfl, st9.below w.heap.size w (by omega) B⟩
        | true =>
          have x0 := X.out.cell 0 rfl
          have x1 := X.out.cell 1 rfl
          have x2 := X.out.cell 2 rfl
          have x3 := X.out.cell 3 rfl
          have y0 := Y.out.cell 0 rfl
          have y1 := Y.out.cell 1 rfl
          have y2 := Y.out.cell 2 rfl
          have y3 := Y.out.cell 3 rfl
          have fx0 := X.out.frozen 0
          have fx1 := X.out.frozen 1
          have fx2 := X.out.frozen 2
          have fx3 := X.out.frozen 3
          go_upto_region 5 with fail
          replace X := Lib.hid (X.out.set 1 (.int .i64 (max f f2)))
          replace Y := Lib.hid (Y.out.far ⟨w.heap.size, 1, none⟩ (.int .i64 (max f f2)) (by show w.heap.size + 1 ≠ w.heap.size; omega))
          replace R := Lib.hid (R.out.far ⟨w.heap.size, 1, none⟩ (.int .i64 (max f f2)) (by show w.heap.size + 1 + 1 ≠ w.heap.size; omega))
          replace B := B.setCell (p := ⟨w.heap.size, 1, none⟩) (Nat.le_refl _) (.int .i64 (max f f2))
          clear x0 x1 x2 x3 y0 y1 y2 y3 fx0 fx1 fx2 fx3
          change Code.wp _ _ _ _ (u0.setCell ⟨w.heap.size, 1, none⟩ (.int .i64 (max f f2)))
          generalize (u0.setCell ⟨w.heap.size, 1, none⟩ (.int .i64 (max f f2))) = u1 at *
          have x0 := X.out.cell 0 rfl
          have x1 := X.out.cell 1 rfl
          have x2 := X.out.cell 2 rfl
          have x3 := X.out.cell 3 rfl
          have y0 := Y.out.cell 0 rfl
          have y1 := Y.out.cell 1 rfl
          have y2 := Y.out.cell 2 rfl
          have y3 := Y.out.cell 3 rfl
          have fx0 := X.out.frozen 0
          have fx1 := X.out.frozen 1
          have fx2 := X.out.frozen 2
          have fx3 := X.out.frozen 3
          go_upto_region 6 with fail
          clear x0 x1 x2 x3 y0 y1 y2 y3 fx0 fx1 fx2 fx3
          have hKS : Keeps (fun w' => Box w' (w.heap.size + 1) 23 #[.bool true, .int .i64 f2, .bool true, .int .i64 t2]) := fun w w' h b => h.after b
          refine wp_region_U (w := u1) (fun w' => Box w' (w.heap.size + 1) 23 #[.bool true, .int .i64 f2, .bool true, .int .i64 t2]) rfl Y.out.drew ?_
          refine wpU_val 0 hKS rfl (by kernel_rfl) (by kernel_rfl) (by kernel_rfl) rfl (fun _ _ _ _ h => h) (.pointer (some ⟨w.heap.size + 1, 2, none⟩)) (fun w' h => by simp [go_sem]) ?_
          simp only [Act.put, List.setIfInBounds_toArray, List.set_cons_zero, List.set_cons_succ]
          refine wpU_val 1 hKS rfl (by kernel_rfl) (by kernel_rfl) (by kernel_rfl) rfl (fun _ _ _ _ h => h) (.bool true) (fun w' h => by simp [go_sem, h.cell 2 rfl]) ?_
          simp only [Act.put, List.setIfInBounds_toArray, List.set_cons_zero, List.set_cons_succ]
          refine wpU_val 2 hKS rfl (by kernel_rfl) (by kernel_rfl) (by kernel_rfl) rfl (fun _ _ _ _ h => h) (.pointer (some ⟨w.heap.size + 1, 3, none⟩)) (fun w' h => by simp [go_sem]) ?_
          simp only [Act.put, List.setIfInBounds_toArray, List.set_cons_zero, List.set_cons_succ]
          refine wpU_val 3 hKS rfl (by kernel_rfl) (by kernel_rfl) (by kernel_rfl) rfl (fun _ _ _ _ h => h) (.int .i64 t2) (fun w' h => by simp [go_sem, h.cell 3 rfl]) ?_
          simp only [Act.put, List.setIfInBounds_toArray, List.set_cons_zero, List.set_cons_succ]
          refine wpU_val 4 hKS rfl (by kernel_rfl) (by kernel_rfl) (by kernel_rfl) rfl (fun _ _ _ _ h => h) (.pointer (some ⟨w.heap.size, 2, none⟩)) (fun w' h => by simp [go_sem]) ?_
          simp only [Act.put, List.setIfInBounds_toArray, List.set_cons_zero, List.set_cons_succ]
          refine wpU_one 5 rfl (by kernel_rfl) rfl ?_
          intro w5 b5 s5
          have b5' : Below u1.heap.size u1 w5 := (Below.refl _ u1).drew.trans b5
          have X5 := X.out.after b5'
          refine wp_store_bool 4 _ _ rfl rfl rfl (X5.cell 2 rfl) (X5.frozen 2) (fun w => by simp [go_sem]) ?_
          have X6 := X5.set 2 (.bool true)
          have e6 : But (fun k => k = w.heap.size) w5 (w5.setCell ⟨w.heap.size, 2, none⟩ (.bool true)) := (But.refl (fun k => k = w.heap.size) w5).setCell (p := ⟨w.heap.size, 2, none⟩) (.inl rfl) _
          refine ⟨e6.box s5 (by omega), ?_⟩
          simp only [Act.put, List.setIfInBounds_toArray, List.set_cons_zero, List.set_cons_succ]
          generalize (w5.setCell ⟨w.heap.size, 2, none⟩ (.bool true)) = w6 at *
          refine wpU_val 6 hKS rfl (by kernel_rfl) (by kernel_rfl) (by kernel_rfl) rfl (fun _ _ _ _ h => h) (.pointer (some ⟨w.heap.size, 3, none⟩)) (fun w' h => by simp [go_sem]) ?_
          simp only [Act.put, List.setIfInBounds_toArray, List.set_cons_zero, List.set_cons_succ]
          refine wpU_one 7 rfl (by kernel_rfl) rfl ?_
          intro w7 b7 s7
          have X7 := X6.after b7
          refine wp_store_i64 2 _ _ rfl rfl rfl (X7.cell 3 rfl) (X7.frozen 3) (fun w => by simp [go_sem]) ?_
          have X8 := X7.set 3 (.int .i64 t2)
          have e8 : But (fun k => k = w.heap.size) w7 (w7.setCell ⟨w.heap.size, 3, none⟩ (.int .i64 t2)) := (But.refl (fun k => k = w.heap.size) w7).setCell (p := ⟨w.heap.size, 3, none⟩) (.inl rfl) _
          refine ⟨e8.box s7 (by omega), ?_⟩
          simp only [Act.put, List.setIfInBounds_toArray, List.set_cons_zero, List.set_cons_succ]
          generalize (w7.setCell ⟨w.heap.size, 3, none⟩ (.int .i64 t2)) = w8 at *
          refine wpU_done (by kernel_rfl) ?_
          intro u2 b9 s9
          have E9 : But (fun k => k = w.heap.size) u1 u2 := (((But.ofBelow b5').trans e6 (fun k hk => .inl hk)).trans ((But.ofBelow (S := fun _ => False) b7)) (fun _ h => h.elim)).trans (e8.trans (But.ofBelow (S := fun _ => False) b9) (fun _ h => h.elim)) (fun k hk => .inl hk)
          replace X := Lib.hid (X8.after b9)
          replace Y := Lib.hid s9
          replace R := Lib.hid (E9.box R.out (by omega))
          replace B := E9.after B B.size (fun k hk => by omega)
          clear hKS b5 b5' s5 X5 X6 e6 b7 s7 X7 X8 e8 b9 s9 E9
          go_wp2_with first | (refine wpList_load_box rfl 23 _ rfl X.out (by rfl) Tryd.underlying23 rfl (by kernel_rfl) ?_) | (refine wpList_store_box (cells := #[.bool true, .int .i64 (max f f2), .bool true, .int .i64 t2]) rfl 23 _ _ rfl R.out (by rfl) (by rfl) rfl (by kernel_rfl) (by simp [Value.oneCell']) ?_; intro u9 X9 st9)
          exact bodyPost_ret (v := .agg #[.bool true, .int .i64 (max f f2), .bool true, .int .i64 t2]) (box_result rfl _ _ (by rfl) X9 Tryd.underlying23 rfl (by kernel_rfl)) rfl ⟨rfl, st9.below w.heap.size w (by omega) B⟩
      | true =>
        cases q2 with
        | false =>
          have x0 := X.out.cell 0 rfl
          have x1 := X.out.cell 1 rfl
          have x2 := X.out.cell 2 rfl
          have x3 := X.out.cell 3 rfl
          have y0 := Y.out.cell 0 rfl
          have y1 := Y.out.cell 1 rfl
          have y2 := Y.out.cell 2 rfl
          have y3 := Y.out.cell 3 rfl
          have fx0 := X.out.frozen 0
          have fx1 := X.out.frozen 1
          have fx2 := X.out.frozen 2
          have fx3 := X.out.frozen 3
          go_upto_region 5 with fail
          replace X := Lib.hid (X.out.set 1 (.int .i64 (max f f2)))
          replace Y := Lib.hid (Y.out.far ⟨w.heap.size, 1, none⟩ (.int .i64 (max f f2)) (by show w.heap.size + 1 ≠ w.heap.size; omega))
          replace R := Lib.hid (R.out.far ⟨w.heap.size, 1, none⟩ (.int .i64 (max f f2)) (by show w.heap.size + 1 + 1 ≠ w.heap.size; omega))
          replace B := B.setCell (p := ⟨w.heap.size, 1, none⟩) (Nat.le_refl _) (.int .i64 (max f f2))
          clear x0 x1 x2 x3 y0 y1 y2 y3 fx0 fx1 fx2 fx3
          change Code.wp _ _ _ _ (u0.setCell ⟨w.heap.size, 1, none⟩ (.int .i64 (max f f2)))
          generalize (u0.setCell ⟨w.heap.size, 1, none⟩ (.int .i64 (max f f2))) = u1 at *
          have x0 := X.out.cell 0 rfl
          have x1 := X.out.cell 1 rfl
          have x2 := X.out.cell 2 rfl
          have x3 := X.out.cell 3 rfl
          have y0 := Y.out.cell 0 rfl
          have y1 := Y.out.cell 1 rfl
          have y2 := Y.out.cell 2 rfl
          have y3 := Y.out.cell 3 rfl
          have fx0 := X.out.frozen 0
          have fx1 := X.out.frozen 1
          have fx2 := X.out.frozen 2
          have fx3 := X.out.frozen 3
          go_upto_region 9 with fail
          clear x0 x1 x2 x3 y0 y1 y2 y3 fx0 fx1 fx2 fx3
          go_wp2_with first | (refine wpList_load_box rfl 23 _ rfl X.out (by rfl) Tryd.underlying23 rfl (by kernel_rfl) ?_) | (refine wpList_store_box (cells := #[.bool true, .int .i64 (max f f2), .bool true, .int .i64 t]) rfl 23 _ _ rfl R.out (by rfl) (by rfl) rfl (by kernel_rfl) (by simp [Value.oneCell']) ?_; intro u9 X9 st9)
          exact bodyPost_ret (v := .agg #[.bool true, .int .i64 (max f f2), .bool true, .int .i64 t]) (box_result rfl _ _ (by rfl) X9 Tryd.underlying23 rfl (by kernel_rfl)) rfl ⟨rfl, st9.below w.heap.size w (by omega) B⟩
        | true =>
          have x0 := X.out.cell 0 rfl
          have x1 := X.out.cell 1 rfl
          have x2 := X.out.cell 2 rfl
          have x3 := X.out.cell 3 rfl
          have y0 := Y.out.cell 0 rfl
          have y1 := Y.out.cell 1 rfl
          have y2 := Y.out.cell 2 rfl
          have y3 := Y.out.cell 3 rfl
          have fx0 := X.out.frozen 0
          have fx1 := X.out.frozen 1
          have fx2 := X.out.frozen 2
          have fx3 := X.out.frozen 3
          go_upto_region 5 with fail
          replace X := Lib.hid (X.out.set 1 (.int .i64 (max f f2)))
          replace Y := Lib.hid (Y.out.far ⟨w.heap.size, 1, none⟩ (.int .i64 (max f f2)) (by show w.heap.size + 1 ≠ w.heap.size; omega))
          replace R := Lib.hid (R.out.far ⟨w.heap.size, 1, none⟩ (.int .i64 (max f f2)) (by show w.heap.size + 1 + 1 ≠ w.heap.size; omega))
          replace B := B.setCell (p := ⟨w.heap.size, 1, none⟩) (Nat.le_refl _) (.int .i64 (max f f2))
          clear x0 x1 x2 x3 y0 y1 y2 y3 fx0 fx1 fx2 fx3
          change Code.wp _ _ _ _ (u0.setCell ⟨w.heap.size, 1, none⟩ (.int .i64 (max f f2)))
          generalize (u0.setCell ⟨w.heap.size, 1, none⟩ (.int .i64 (max f f2))) = u1 at *
          have x0 := X.out.cell 0 rfl
          have x1 := X.out.cell 1 rfl
          have x2 := X.out.cell 2 rfl
          have x3 := X.out.cell 3 rfl
          have y0 := Y.out.cell 0 rfl
          have y1 := Y.out.cell 1 rfl
          have y2 := Y.out.cell 2 rfl
          have y3 := Y.out.cell 3 rfl
          have fx0 := X.out.frozen 0
          have fx1 := X.out.frozen 1
          have fx2 := X.out.frozen 2
          have fx3 := X.out.frozen 3
          go_upto_region 9 with fail
          replace X := Lib.hid (X.out.set 3 (.int .i64 (min t t2)))
          replace Y := Lib.hid (Y.out.far ⟨w.heap.size, 3, none⟩ (.int .i64 (min t t2)) (by show w.heap.size + 1 ≠ w.heap.size; omega))
          replace R := Lib.hid (R.out.far ⟨w.heap.size, 3, none⟩ (.int .i64 (min t t2)) (by show w.heap.size + 1 + 1 ≠ w.heap.size; omega))
          replace B := B.setCell (p := ⟨w.heap.size, 3, none⟩) (Nat.le_refl _) (.int .i64 (min t t2))
          clear x0 x1 x2 x3 y0 y1 y2 y3 fx0 fx1 fx2 fx3
          change Code.wp _ _ _ _ (u1.setCell ⟨w.heap.size, 3, none⟩ (.int .i64 (min t t2)))
          generalize (u1.setCell ⟨w.heap.size, 3, none⟩ (.int .i64 (min t t2))) = u2 at *
          go_wp2_with first | (refine wpList_load_box rfl 23 _ rfl X.out (by rfl) Tryd.underlying23 rfl (by kernel_rfl) ?_) | (refine wpList_store_box (cells := #[.bool true, .int .i64 (max f f2), .bool true, .int .i64 (min t t2)]) rfl 23 _ _ rfl R.out (by rfl) (by rfl) rfl (by kernel_rfl) (by simp [Value.oneCell']) ?_; intro u9 X9 st9)
          exact bodyPost_ret (v := .agg #[.bool true, .int .i64 (max f f2), .bool true, .int .i64 (min t t2)]) (box_result rfl _ _ (by rfl) X9 Tryd.underlying23 rfl (by kernel_rfl)) rfl ⟨rfl, st9.below w.heap.size w (by omega) B⟩

def W4.empty (x : W4) : Bool := x.p && (x.q && decide (x.t < x.f))
set_option maxHeartbeats 4000000 in
set_option maxRecDepth 100000 in
theorem winEmpty_any (p : Bool) (f : Int) (q : Bool) (t : Int) (w : World) : Calls Tryd.prog 19 #[.agg #[.bool p, .int .i64 f, .bool q, .int .i64 t]] w fun e w' => e = .returned (.bool (W4.empty ⟨p, f, q, t⟩)) ∧ Below w.heap.size w w' := by
  have B : Below w.heap.size w (w.alloc (.cells #[.bool p, .int .i64 f, .bool q, .int .i64 t] 23)) := (Below.refl _ _).alloc (Nat.le_refl _) _
  have X := Box.new w 23 #[.bool p, .int .i64 f, .bool q, .int .i64 t]
  have x0 := X.cell 0 rfl
  have x1 := X.cell 1 rfl
  have x2 := X.cell 2 rfl
  have x3 := X.cell 3 rfl
  clear X
  go_enter Tryd.func19, Tryd.ntmps19
  go_upto_region 1 with fail
  change Code.wp _ _ _ _ (w.alloc (.cells #[.bool p, .int .i64 f, .bool q, .int .i64 t] 23))
  generalize (w.alloc (.cells #[.bool p, .int .i64 f, .bool q, .int .i64 t] 23)) = u0 at *
  cases p with
  | false =>
    go_wp2_with fail
    go_ret
    exact ⟨rfl, B⟩
  | true =>
    cases q with
    | false =>
      go_wp2_with fail
      go_ret
      exact ⟨rfl, B⟩
    | true =>
      by_cases h : t < f
      · go_wp2_with fail
        go_ret
        exact ⟨by simp [W4.empty, h], B⟩
      · replace h : f ≤ t := by omega
        go_wp2_with fail
        go_ret
        exact ⟨by simp [W4.empty] <;> omega, B⟩

end Go.Proofs.YtigopfeamjhdpaaDoor

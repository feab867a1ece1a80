/- WindowTurns. -/
import Derived.Test.YtigopfeamjhdpaaDoorWnW
import Derived.Test.YtigopfeamjhdpaaDoorWnAl
namespace Go.Proofs.YtigopfeamjhdpaaDoor
open Go.RowKit
set_option linter.unusedSimpArgs false
set_option linter.unusedVariables false

theorem meet_w (a b m : W4) (h : m = a.meet b) (w : World) : Calls Tryd.prog 16 #[.agg #[.bool a.p, .int .i64 a.f, .bool a.q, .int .i64 a.t], .agg #[.bool b.p, .int .i64 b.f, .bool b.q, .int .i64 b.t]] w fun e w' => e = .returned (.agg #[.bool m.p, .int .i64 m.f, .bool m.q, .int .i64 m.t]) ∧ Below w.heap.size w w' := by
  subst h
  exact winMeet_any a.p a.f a.q a.t b.p b.f b.q b.t w
theorem inn_w (m : W4) (j : Int) (r : Bool) (h : m.inn j = r) (w : World) : Calls Tryd.prog 17 #[.agg #[.bool m.p, .int .i64 m.f, .bool m.q, .int .i64 m.t], .int .i64 j] w fun e w' => e = .returned (.bool r) ∧ Below w.heap.size w w' := by
  subst h
  exact winIn_any m.p m.f m.q m.t j w
theorem nil_inn (j : Int) : W4.nil.inn j = true := rfl

set_option maxHeartbeats 32000000 in
set_option maxRecDepth 100000 in
theorem turns_walk (a b c : W4) (j : Int) (w : World) (ht : Tab w) : Calls Tryd.prog 5 #[.agg #[.bool a.p, .int .i64 a.f, .bool a.q, .int .i64 a.t], .agg #[.bool b.p, .int .i64 b.f, .bool b.q, .int .i64 b.t], .agg #[.bool c.p, .int .i64 c.f, .bool c.q, .int .i64 c.t], .int .i64 j] w fun e w' => e = .returned (.bool true) ∧ Below w.heap.size w w' := by
  have HT := Lib.hid ht
  obtain ⟨mx, hmx⟩ : ∃ m, m = W4.meet a b := ⟨_, rfl⟩
  obtain ⟨my, hmy⟩ : ∃ m, m = W4.meet b a := ⟨_, rfl⟩
  obtain ⟨ms, hms⟩ : ∃ m, m = W4.meet mx c := ⟨_, rfl⟩
  obtain ⟨mt, hmt⟩ : ∃ m, m = W4.meet b c := ⟨_, rfl⟩
  obtain ⟨mu, hmu⟩ : ∃ m, m = W4.meet a mt := ⟨_, rfl⟩
  obtain ⟨mv, hmv⟩ : ∃ m, m = W4.meet a a := ⟨_, rfl⟩
  obtain ⟨mn, hmn⟩ : ∃ m, m = W4.meet a W4.nil := ⟨_, rfl⟩
  have CX := Lib.hid (meet_w a b mx hmx)
  have CY := Lib.hid (meet_w b a my hmy)
  have CS := Lib.hid (meet_w mx c ms hms)
  have CT := Lib.hid (meet_w b c mt hmt)
  have CU := Lib.hid (meet_w a mt mu hmu)
  have CV := Lib.hid (meet_w a a mv hmv)
  have CN : Hid (∀ w, Calls Tryd.prog 16 #[.agg #[.bool a.p, .int .i64 a.f, .bool a.q, .int .i64 a.t], .agg #[.bool false, .int .i64 0, .bool false, .int .i64 0]] w fun e w' => e = .returned (.agg #[.bool mn.p, .int .i64 mn.f, .bool mn.q, .int .i64 mn.t]) ∧ Below w.heap.size w w') := Lib.hid (meet_w a W4.nil mn hmn)
  have IA := Lib.hid (inn_w a j _ rfl)
  have IX := Lib.hid (inn_w mx j (a.inn j && b.inn j) (by rw [hmx, meet_inn]))
  have IY := Lib.hid (inn_w my j (a.inn j && b.inn j) (by rw [hmy, meet_inn, Bool.and_comm]))
  have IS := Lib.hid (inn_w ms j ((a.inn j && b.inn j) && c.inn j) (by rw [hms, meet_inn, hmx, meet_inn]))
  have IU := Lib.hid (inn_w mu j ((a.inn j && b.inn j) && c.inn j) (by rw [hmu, meet_inn, hmt, meet_inn, Bool.and_assoc]))
  have IV := Lib.hid (inn_w mv j (a.inn j) (by rw [hmv, meet_inn, Bool.and_self]))
  have IN := Lib.hid (inn_w mn j (a.inn j) (by rw [hmn, meet_inn, nil_inn, Bool.and_true]))
  generalize ((a.inn j && b.inn j) && c.inn j) = i3 at *
  generalize (a.inn j && b.inn j) = i2 at *
  generalize a.inn j = i1 at *
  clear hmx hmy hms hmt hmu hmv hmn ht
  have hB : Below w.heap.size w (((w.alloc (.cells #[.bool a.p, .int .i64 a.f, .bool a.q, .int .i64 a.t] 23)).alloc (.cells #[.bool b.p, .int .i64 b.f, .bool b.q, .int .i64 b.t] 23)).alloc (.cells #[.bool c.p, .int .i64 c.f, .bool c.q, .int .i64 c.t] 23)) := (((Below.refl _ _).alloc (Nat.le_refl _) _).alloc (by simp) _).alloc (by simp; omega) _
  have hS : w.heap.size ≤ (((w.alloc (.cells #[.bool a.p, .int .i64 a.f, .bool a.q, .int .i64 a.t] 23)).alloc (.cells #[.bool b.p, .int .i64 b.f, .bool b.q, .int .i64 b.t] 23)).alloc (.cells #[.bool c.p, .int .i64 c.f, .bool c.q, .int .i64 c.t] 23)).heap.size := hB.size
  have hA : Box (((w.alloc (.cells #[.bool a.p, .int .i64 a.f, .bool a.q, .int .i64 a.t] 23)).alloc (.cells #[.bool b.p, .int .i64 b.f, .bool b.q, .int .i64 b.t] 23)).alloc (.cells #[.bool c.p, .int .i64 c.f, .bool c.q, .int .i64 c.t] 23)) w.heap.size 23 #[.bool a.p, .int .i64 a.f, .bool a.q, .int .i64 a.t] := (((Box.new _ _ _).alloc _).alloc _)
  have hD : Box (((w.alloc (.cells #[.bool a.p, .int .i64 a.f, .bool a.q, .int .i64 a.t] 23)).alloc (.cells #[.bool b.p, .int .i64 b.f, .bool b.q, .int .i64 b.t] 23)).alloc (.cells #[.bool c.p, .int .i64 c.f, .bool c.q, .int .i64 c.t] 23)) (w.heap.size + 1) 23 #[.bool b.p, .int .i64 b.f, .bool b.q, .int .i64 b.t] := by
    have := (Box.new (w.alloc (.cells #[.bool a.p, .int .i64 a.f, .bool a.q, .int .i64 a.t] 23)) 23 #[.bool b.p, .int .i64 b.f, .bool b.q, .int .i64 b.t]).alloc (.cells #[.bool c.p, .int .i64 c.f, .bool c.q, .int .i64 c.t] 23)
    simpa using this
  have hE : Box (((w.alloc (.cells #[.bool a.p, .int .i64 a.f, .bool a.q, .int .i64 a.t] 23)).alloc (.cells #[.bool b.p, .int .i64 b.f, .bool b.q, .int .i64 b.t] 23)).alloc (.cells #[.bool c.p, .int .i64 c.f, .bool c.q, .int .i64 c.t] 23)) (w.heap.size + 1 + 1) 23 #[.bool c.p, .int .i64 c.f, .bool c.q, .int .i64 c.t] := by
    have := Box.new ((w.alloc (.cells #[.bool a.p, .int .i64 a.f, .bool a.q, .int .i64 a.t] 23)).alloc (.cells #[.bool b.p, .int .i64 b.f, .bool b.q, .int .i64 b.t] 23)) 23 #[.bool c.p, .int .i64 c.f, .bool c.q, .int .i64 c.t]
    simpa using this
  go_enter Tryd.func5, Tryd.ntmps5
  go_upto_region 1 with fail
  change Code.wp _ _ _ _ (((w.alloc (.cells #[.bool a.p, .int .i64 a.f, .bool a.q, .int .i64 a.t] 23)).alloc (.cells #[.bool b.p, .int .i64 b.f, .bool b.q, .int .i64 b.t] 23)).alloc (.cells #[.bool c.p, .int .i64 c.f, .bool c.q, .int .i64 c.t] 23))
  generalize (((w.alloc (.cells #[.bool a.p, .int .i64 a.f, .bool a.q, .int .i64 a.t] 23)).alloc (.cells #[.bool b.p, .int .i64 b.f, .bool b.q, .int .i64 b.t] 23)).alloc (.cells #[.bool c.p, .int .i64 c.f, .bool c.q, .int .i64 c.t] 23)) = x0 at *
  go_upto_region 1 with fail
  have hKS : Keeps (fun w' => Box w' w.heap.size 23 (#[.bool a.p, .int .i64 a.f, .bool a.q, .int .i64 a.t]) ∧ Box w' (w.heap.size + 1) 23 (#[.bool b.p, .int .i64 b.f, .bool b.q, .int .i64 b.t])) := fun w w' h b => ⟨h.1.after b, h.2.after b⟩
  refine wp_region_U (w := x0) (fun w' => Box w' w.heap.size 23 (#[.bool a.p, .int .i64 a.f, .bool a.q, .int .i64 a.t]) ∧ Box w' (w.heap.size + 1) 23 (#[.bool b.p, .int .i64 b.f, .bool b.q, .int .i64 b.t])) rfl (⟨hA.drew, hD.drew⟩) ?_
  replace hA := hA.drew
  replace hD := hD.drew
  replace hE := hE.drew
  replace hB := hB.drew
  replace hS := Nat.le_trans hS (show x0.heap.size ≤ x0.drew.heap.size from Nat.le_refl _)
  refine wpU_val 0 hKS rfl (by kernel_rfl) (by kernel_rfl) (by kernel_rfl) rfl (fun _ _ _ _ h => h) (.agg (#[.bool a.p, .int .i64 a.f, .bool a.q, .int .i64 a.t])) (fun w' h => run_load_box rfl h.1 (by simp [go_sem]) Tryd.underlying23 rfl (by kernel_rfl)) ?_
  simp only [Act.put, List.setIfInBounds_toArray, List.set_cons_zero, List.set_cons_succ]
  refine wpU_val 1 hKS rfl (by kernel_rfl) (by kernel_rfl) (by kernel_rfl) rfl (fun _ _ _ _ h => h) (.agg (#[.bool b.p, .int .i64 b.f, .bool b.q, .int .i64 b.t])) (fun w' h => run_load_box rfl h.2 (by simp [go_sem]) Tryd.underlying23 rfl (by kernel_rfl)) ?_
  simp only [Act.put, List.setIfInBounds_toArray, List.set_cons_zero, List.set_cons_succ]
  refine wpU_call 2 hKS rfl (by kernel_rfl) (by kernel_rfl) (by kernel_rfl) rfl (fun _ _ _ _ h => h) 16 #[.agg #[.bool a.p, .int .i64 a.f, .bool a.q, .int .i64 a.t], .agg #[.bool b.p, .int .i64 b.f, .bool b.q, .int .i64 b.t]] (fun w => by simp [go_sem]) _ (CX.out) ?_
  simp only [Act.put, List.setIfInBounds_toArray, List.set_cons_zero, List.set_cons_succ]
  refine wpU_val 3 hKS rfl (by kernel_rfl) (by kernel_rfl) (by kernel_rfl) rfl (fun _ _ _ _ h => h) (.agg (#[.bool b.p, .int .i64 b.f, .bool b.q, .int .i64 b.t])) (fun w' h => run_load_box rfl h.2 (by simp [go_sem]) Tryd.underlying23 rfl (by kernel_rfl)) ?_
  simp only [Act.put, List.setIfInBounds_toArray, List.set_cons_zero, List.set_cons_succ]
  refine wpU_val 4 hKS rfl (by kernel_rfl) (by kernel_rfl) (by kernel_rfl) rfl (fun _ _ _ _ h => h) (.agg (#[.bool a.p, .int .i64 a.f, .bool a.q, .int .i64 a.t])) (fun w' h => run_load_box rfl h.1 (by simp [go_sem]) Tryd.underlying23 rfl (by kernel_rfl)) ?_
  simp only [Act.put, List.setIfInBounds_toArray, List.set_cons_zero, List.set_cons_succ]
  refine wpU_call 5 hKS rfl (by kernel_rfl) (by kernel_rfl) (by kernel_rfl) rfl (fun _ _ _ _ h => h) 16 #[.agg #[.bool b.p, .int .i64 b.f, .bool b.q, .int .i64 b.t], .agg #[.bool a.p, .int .i64 a.f, .bool a.q, .int .i64 a.t]] (fun w => by simp [go_sem]) _ (CY.out) ?_
  simp only [Act.put, List.setIfInBounds_toArray, List.set_cons_zero, List.set_cons_succ]
  refine wpU_al2 (T := 23) (cs := #[.bool false, .int .i64 0, .bool false, .int .i64 0]) (by intro w; simp [go_sem]) hKS (i := 6) (j := 7) ⟨⟨_, rfl⟩, rfl, rfl⟩ ⟨⟨_, rfl⟩, rfl, rfl⟩ (by decide) (by intro d h1 h2; cases h1; cases h2) (by kernel_rfl) (by kernel_rfl) (by kernel_rfl) ?_
  intro gX gY v1 hX hY n_X_Y lX lY bv1 sS
  simp only [Act.put, List.setIfInBounds_toArray, List.set_cons_zero, List.set_cons_succ]
  have n_Y_X := Ne.symm n_X_Y
  have n_A_X := hA.before lX
  have n_X_A := hA.behind lX
  have n_A_Y := hA.before lY
  have n_Y_A := hA.behind lY
  have n_D_X := hD.before lX
  have n_X_D := hD.behind lX
  have n_D_Y := hD.before lY
  have n_Y_D := hD.behind lY
  have n_E_X := hE.before lX
  have n_X_E := hE.behind lX
  have n_E_Y := hE.before lY
  have n_Y_E := hE.behind lY
  replace lX := Nat.le_trans hS lX
  replace lY := Nat.le_trans hS lY
  replace hA := hA.after bv1
  replace hD := hD.after bv1
  replace hE := hE.after bv1
  replace hB := hB.trans (bv1.mono hS)
  replace hS := Nat.le_trans hS bv1.size
  clear bv1
  refine wpU_store_box (cells := #[.bool mx.p, .int .i64 mx.f, .bool mx.q, .int .i64 mx.t]) 8 rfl (by kernel_rfl) rfl 23 (.tmp 9) (.tmp 15) rfl hX (by simp [go_sem]) (by simp [go_sem]) (by rfl) (by kernel_rfl) (by simp [Value.oneCell']) ?_
  intro v2 v3 bv2 sS hX_ stv3
  refine ⟨⟨stv3.box sS.1 n_A_X, stv3.box sS.2 n_D_X⟩, ?_⟩
  simp only [Act.put]
  replace hA := hA.after bv2
  replace hD := hD.after bv2
  replace hE := hE.after bv2
  replace hX := hX.after bv2
  replace hY := hY.after bv2
  replace hB := hB.trans (bv2.mono hS)
  replace hS := Nat.le_trans hS bv2.size
  clear bv2
  replace hA := stv3.box hA n_A_X
  replace hD := stv3.box hD n_D_X
  replace hE := stv3.box hE n_E_X
  replace hY := stv3.box hY n_Y_X
  replace hB := stv3.below w.heap.size w lX hB
  replace hS := Nat.le_trans hS (Nat.le_of_eq stv3.size.symm)
  clear hX stv3 sS
  have hX := hX_
  clear hX_
  refine wpU_store_box (cells := #[.bool my.p, .int .i64 my.f, .bool my.q, .int .i64 my.t]) 9 rfl (by kernel_rfl) rfl 23 (.tmp 10) (.tmp 18) rfl hY (by simp [go_sem]) (by simp [go_sem]) (by rfl) (by kernel_rfl) (by simp [Value.oneCell']) ?_
  intro v4 v5 bv4 sS hY_ stv5
  refine ⟨⟨stv5.box sS.1 n_A_Y, stv5.box sS.2 n_D_Y⟩, ?_⟩
  simp only [Act.put]
  replace hA := hA.after bv4
  replace hD := hD.after bv4
  replace hE := hE.after bv4
  replace hX := hX.after bv4
  replace hY := hY.after bv4
  replace hB := hB.trans (bv4.mono hS)
  replace hS := Nat.le_trans hS bv4.size
  clear bv4
  replace hA := stv5.box hA n_A_Y
  replace hD := stv5.box hD n_D_Y
  replace hE := stv5.box hE n_E_Y
  replace hX := stv5.box hX n_X_Y
  replace hB := stv5.below w.heap.size w lY hB
  replace hS := Nat.le_trans hS (Nat.le_of_eq stv5.size.symm)
  clear hY stv5 sS
  have hY := hY_
  clear hY_
  refine wpU_done (by kernel_rfl) ?_
  intro v6 bv6 sS
  clear hKS sS
  replace hA := hA.after bv6
  replace hD := hD.after bv6
  replace hE := hE.after bv6
  replace hX := hX.after bv6
  replace hY := hY.after bv6
  replace hB := hB.trans (bv6.mono hS)
  replace hS := Nat.le_trans hS bv6.size
  clear bv6
  go_upto_region 2 with fail
  have hKS : Keeps (fun w' => Box w' w.heap.size 23 (#[.bool a.p, .int .i64 a.f, .bool a.q, .int .i64 a.t]) ∧ Box w' (w.heap.size + 1) 23 (#[.bool b.p, .int .i64 b.f, .bool b.q, .int .i64 b.t]) ∧ Box w' (w.heap.size + 1 + 1) 23 (#[.bool c.p, .int .i64 c.f, .bool c.q, .int .i64 c.t]) ∧ Box w' gX 23 (#[.bool mx.p, .int .i64 mx.f, .bool mx.q, .int .i64 mx.t])) := fun w w' h b => ⟨h.1.after b, h.2.1.after b, h.2.2.1.after b, h.2.2.2.after b⟩
  refine wp_region_U (w := v6) (fun w' => Box w' w.heap.size 23 (#[.bool a.p, .int .i64 a.f, .bool a.q, .int .i64 a.t]) ∧ Box w' (w.heap.size + 1) 23 (#[.bool b.p, .int .i64 b.f, .bool b.q, .int .i64 b.t]) ∧ Box w' (w.heap.size + 1 + 1) 23 (#[.bool c.p, .int .i64 c.f, .bool c.q, .int .i64 c.t]) ∧ Box w' gX 23 (#[.bool mx.p, .int .i64 mx.f, .bool mx.q, .int .i64 mx.t])) rfl (⟨hA.drew, hD.drew, hE.drew, hX.drew⟩) ?_
  replace hA := hA.drew
  replace hD := hD.drew
  replace hE := hE.drew
  replace hX := hX.drew
  replace hY := hY.drew
  replace hB := hB.drew
  replace hS := Nat.le_trans hS (show v6.heap.size ≤ v6.drew.heap.size from Nat.le_refl _)
  refine wpU_val 0 hKS rfl (by kernel_rfl) (by kernel_rfl) (by kernel_rfl) rfl (fun _ _ _ _ h => h) (.agg (#[.bool mx.p, .int .i64 mx.f, .bool mx.q, .int .i64 mx.t])) (fun w' h => run_load_box rfl h.2.2.2 (by simp [go_sem]) Tryd.underlying23 rfl (by kernel_rfl)) ?_
  simp only [Act.put, List.setIfInBounds_toArray, List.set_cons_zero, List.set_cons_succ]
  refine wpU_val 1 hKS rfl (by kernel_rfl) (by kernel_rfl) (by kernel_rfl) rfl (fun _ _ _ _ h => h) (.agg (#[.bool c.p, .int .i64 c.f, .bool c.q, .int .i64 c.t])) (fun w' h => run_load_box rfl h.2.2.1 (by simp [go_sem]) Tryd.underlying23 rfl (by kernel_rfl)) ?_
  simp only [Act.put, List.setIfInBounds_toArray, List.set_cons_zero, List.set_cons_succ]
  refine wpU_call 2 hKS rfl (by kernel_rfl) (by kernel_rfl) (by kernel_rfl) rfl (fun _ _ _ _ h => h) 16 #[.agg #[.bool mx.p, .int .i64 mx.f, .bool mx.q, .int .i64 mx.t], .agg #[.bool c.p, .int .i64 c.f, .bool c.q, .int .i64 c.t]] (fun w => by simp [go_sem]) _ (CS.out) ?_
  simp only [Act.put, List.setIfInBounds_toArray, List.set_cons_zero, List.set_cons_succ]
  refine wpU_val 3 hKS rfl (by kernel_rfl) (by kernel_rfl) (by kernel_rfl) rfl (fun _ _ _ _ h => h) (.agg (#[.bool a.p, .int .i64 a.f, .bool a.q, .int .i64 a.t])) (fun w' h => run_load_box rfl h.1 (by simp [go_sem]) Tryd.underlying23 rfl (by kernel_rfl)) ?_
  simp only [Act.put, List.setIfInBounds_toArray, List.set_cons_zero, List.set_cons_succ]
  refine wpU_val 4 hKS rfl (by kernel_rfl) (by kernel_rfl) (by kernel_rfl) rfl (fun _ _ _ _ h => h) (.agg (#[.bool b.p, .int .i64 b.f, .bool b.q, .int .i64 b.t])) (fun w' h => run_load_box rfl h.2.1 (by simp [go_sem]) Tryd.underlying23 rfl (by kernel_rfl)) ?_
  simp only [Act.put, List.setIfInBounds_toArray, List.set_cons_zero, List.set_cons_succ]
  refine wpU_val 5 hKS rfl (by kernel_rfl) (by kernel_rfl) (by kernel_rfl) rfl (fun _ _ _ _ h => h) (.agg (#[.bool c.p, .int .i64 c.f, .bool c.q, .int .i64 c.t])) (fun w' h => run_load_box rfl h.2.2.1 (by simp [go_sem]) Tryd.underlying23 rfl (by kernel_rfl)) ?_
  simp only [Act.put, List.setIfInBounds_toArray, List.set_cons_zero, List.set_cons_succ]
  refine wpU_call 6 hKS rfl (by kernel_rfl) (by kernel_rfl) (by kernel_rfl) rfl (fun _ _ _ _ h => h) 16 #[.agg #[.bool b.p, .int .i64 b.f, .bool b.q, .int .i64 b.t], .agg #[.bool c.p, .int .i64 c.f, .bool c.q, .int .i64 c.t]] (fun w => by simp [go_sem]) _ (CT.out) ?_
  simp only [Act.put, List.setIfInBounds_toArray, List.set_cons_zero, List.set_cons_succ]
  refine wpU_call 7 hKS rfl (by kernel_rfl) (by kernel_rfl) (by kernel_rfl) rfl (fun _ _ _ _ h => h) 16 #[.agg #[.bool a.p, .int .i64 a.f, .bool a.q, .int .i64 a.t], .agg #[.bool mt.p, .int .i64 mt.f, .bool mt.q, .int .i64 mt.t]] (fun w => by simp [go_sem]) _ (CU.out) ?_
  simp only [Act.put, List.setIfInBounds_toArray, List.set_cons_zero, List.set_cons_succ]
  refine wpU_al2 (T := 23) (cs := #[.bool false, .int .i64 0, .bool false, .int .i64 0]) (by intro w; simp [go_sem]) hKS (i := 8) (j := 9) ⟨⟨_, rfl⟩, rfl, rfl⟩ ⟨⟨_, rfl⟩, rfl, rfl⟩ (by decide) (by intro d h1 h2; cases h1; cases h2) (by kernel_rfl) (by kernel_rfl) (by kernel_rfl) ?_
  intro gQ gU v7 hQ hU n_Q_U lQ lU bv7 sS
  simp only [Act.put, List.setIfInBounds_toArray, List.set_cons_zero, List.set_cons_succ]
  have n_U_Q := Ne.symm n_Q_U
  have n_A_Q := hA.before lQ
  have n_Q_A := hA.behind lQ
  have n_A_U := hA.before lU
  have n_U_A := hA.behind lU
  have n_D_Q := hD.before lQ
  have n_Q_D := hD.behind lQ
  have n_D_U := hD.before lU
  have n_U_D := hD.behind lU
  have n_E_Q := hE.before lQ
  have n_Q_E := hE.behind lQ
  have n_E_U := hE.before lU
  have n_U_E := hE.behind lU
  have n_X_Q := hX.before lQ
  have n_Q_X := hX.behind lQ
  have n_X_U := hX.before lU
  have n_U_X := hX.behind lU
  have n_Y_Q := hY.before lQ
  have n_Q_Y := hY.behind lQ
  have n_Y_U := hY.before lU
  have n_U_Y := hY.behind lU
  replace lQ := Nat.le_trans hS lQ
  replace lU := Nat.le_trans hS lU
  replace hA := hA.after bv7
  replace hD := hD.after bv7
  replace hE := hE.after bv7
  replace hX := hX.after bv7
  replace hY := hY.after bv7
  replace hB := hB.trans (bv7.mono hS)
  replace hS := Nat.le_trans hS bv7.size
  clear bv7
  refine wpU_store_box (cells := #[.bool ms.p, .int .i64 ms.f, .bool ms.q, .int .i64 ms.t]) 10 rfl (by kernel_rfl) rfl 23 (.tmp 11) (.tmp 21) rfl hQ (by simp [go_sem]) (by simp [go_sem]) (by rfl) (by kernel_rfl) (by simp [Value.oneCell']) ?_
  intro v8 v9 bv8 sS hQ_ stv9
  refine ⟨⟨stv9.box sS.1 n_A_Q, stv9.box sS.2.1 n_D_Q, stv9.box sS.2.2.1 n_E_Q, stv9.box sS.2.2.2 n_X_Q⟩, ?_⟩
  simp only [Act.put]
  replace hA := hA.after bv8
  replace hD := hD.after bv8
  replace hE := hE.after bv8
  replace hX := hX.after bv8
  replace hY := hY.after bv8
  replace hQ := hQ.after bv8
  replace hU := hU.after bv8
  replace hB := hB.trans (bv8.mono hS)
  replace hS := Nat.le_trans hS bv8.size
  clear bv8
  replace hA := stv9.box hA n_A_Q
  replace hD := stv9.box hD n_D_Q
  replace hE := stv9.box hE n_E_Q
  replace hX := stv9.box hX n_X_Q
  replace hY := stv9.box hY n_Y_Q
  replace hU := stv9.box hU n_U_Q
  replace hB := stv9.below w.heap.size w lQ hB
  replace hS := Nat.le_trans hS (Nat.le_of_eq stv9.size.symm)
  clear hQ stv9 sS
  have hQ := hQ_
  clear hQ_
  refine wpU_store_box (cells := #[.bool mu.p, .int .i64 mu.f, .bool mu.q, .int .i64 mu.t]) 11 rfl (by kernel_rfl) rfl 23 (.tmp 12) (.tmp 26) rfl hU (by simp [go_sem]) (by simp [go_sem]) (by rfl) (by kernel_rfl) (by simp [Value.oneCell']) ?_
  intro v10 v11 bv10 sS hU_ stv11
  refine ⟨⟨stv11.box sS.1 n_A_U, stv11.box sS.2.1 n_D_U, stv11.box sS.2.2.1 n_E_U, stv11.box sS.2.2.2 n_X_U⟩, ?_⟩
  simp only [Act.put]
  replace hA := hA.after bv10
  replace hD := hD.after bv10
  replace hE := hE.after bv10
  replace hX := hX.after bv10
  replace hY := hY.after bv10
  replace hQ := hQ.after bv10
  replace hU := hU.after bv10
  replace hB := hB.trans (bv10.mono hS)
  replace hS := Nat.le_trans hS bv10.size
  clear bv10
  replace hA := stv11.box hA n_A_U
  replace hD := stv11.box hD n_D_U
  replace hE := stv11.box hE n_E_U
  replace hX := stv11.box hX n_X_U
  replace hY := stv11.box hY n_Y_U
  replace hQ := stv11.box hQ n_Q_U
  replace hB := stv11.below w.heap.size w lU hB
  replace hS := Nat.le_trans hS (Nat.le_of_eq stv11.size.symm)
  clear hU stv11 sS
  have hU := hU_
  clear hU_
  refine wpU_done (by kernel_rfl) ?_
  intro v12 bv12 sS
  clear hKS sS
  replace hA := hA.after bv12
  replace hD := hD.after bv12
  replace hE := hE.after bv12
  replace hX := hX.after bv12
  replace hY := hY.after bv12
  replace hQ := hQ.after bv12
  replace hU := hU.after bv12
  replace hB := hB.trans (bv12.mono hS)
  replace hS := Nat.le_trans hS bv12.size
  clear bv12
  go_upto_region 3 with fail
  refine wp_region_made v12.heap.size v12 rfl (by kernel_rfl) (Below.refl _ _) ?_
  refine wpQ_load_box rfl 23 _ rfl hX (by rfl) hX.lt Tryd.underlying23 rfl (by kernel_rfl) ?_
  simp only [Act.put, List.setIfInBounds_toArray, List.set_cons_zero, List.set_cons_succ]
  refine wpQ_run rfl (.int .i64 j) (fun w hw => by simp [go_sem]) ?_
  simp only [Act.put, List.setIfInBounds_toArray, List.set_cons_zero, List.set_cons_succ]
  refine wpQ_call rfl 17 #[.agg #[.bool mx.p, .int .i64 mx.f, .bool mx.q, .int .i64 mx.t], .int .i64 j] (fun w => by simp [go_sem]) _ (Nat.le_refl _) (IX.out) ?_
  simp only [Act.put, List.setIfInBounds_toArray, List.set_cons_zero, List.set_cons_succ]
  refine wpQ_load_box rfl 23 _ rfl hY (by rfl) hY.lt Tryd.underlying23 rfl (by kernel_rfl) ?_
  simp only [Act.put, List.setIfInBounds_toArray, List.set_cons_zero, List.set_cons_succ]
  refine wpQ_run rfl (.int .i64 j) (fun w hw => by simp [go_sem]) ?_
  simp only [Act.put, List.setIfInBounds_toArray, List.set_cons_zero, List.set_cons_succ]
  refine wpQ_call rfl 17 #[.agg #[.bool my.p, .int .i64 my.f, .bool my.q, .int .i64 my.t], .int .i64 j] (fun w => by simp [go_sem]) _ (Nat.le_refl _) (IY.out) ?_
  simp only [Act.put, List.setIfInBounds_toArray, List.set_cons_zero, List.set_cons_succ]
  refine wpQ_run rfl (.bool true) (fun w hw => by simp [go_sem]) ?_
  simp only [Act.put, List.setIfInBounds_toArray, List.set_cons_zero, List.set_cons_succ]
  refine wpQ_run rfl (.bool true) (fun w hw => by simp [go_sem]) ?_
  simp only [Act.put, List.setIfInBounds_toArray, List.set_cons_zero, List.set_cons_succ]
  refine wpQ_load_box rfl 23 _ rfl hQ (by rfl) hQ.lt Tryd.underlying23 rfl (by kernel_rfl) ?_
  simp only [Act.put, List.setIfInBounds_toArray, List.set_cons_zero, List.set_cons_succ]
  refine wpQ_run rfl (.int .i64 j) (fun w hw => by simp [go_sem]) ?_
  simp only [Act.put, List.setIfInBounds_toArray, List.set_cons_zero, List.set_cons_succ]
  refine wpQ_call rfl 17 #[.agg #[.bool ms.p, .int .i64 ms.f, .bool ms.q, .int .i64 ms.t], .int .i64 j] (fun w => by simp [go_sem]) _ (Nat.le_refl _) (IS.out) ?_
  simp only [Act.put, List.setIfInBounds_toArray, List.set_cons_zero, List.set_cons_succ]
  refine wpQ_load_box rfl 23 _ rfl hU (by rfl) hU.lt Tryd.underlying23 rfl (by kernel_rfl) ?_
  simp only [Act.put, List.setIfInBounds_toArray, List.set_cons_zero, List.set_cons_succ]
  refine wpQ_run rfl (.int .i64 j) (fun w hw => by simp [go_sem]) ?_
  simp only [Act.put, List.setIfInBounds_toArray, List.set_cons_zero, List.set_cons_succ]
  refine wpQ_call rfl 17 #[.agg #[.bool mu.p, .int .i64 mu.f, .bool mu.q, .int .i64 mu.t], .int .i64 j] (fun w => by simp [go_sem]) _ (Nat.le_refl _) (IU.out) ?_
  simp only [Act.put, List.setIfInBounds_toArray, List.set_cons_zero, List.set_cons_succ]
  refine wpQ_run rfl (.bool true) (fun w hw => by simp [go_sem]) ?_
  simp only [Act.put, List.setIfInBounds_toArray, List.set_cons_zero, List.set_cons_succ]
  refine wpQ_run rfl (.bool true) (fun w hw => by simp [go_sem]) ?_
  simp only [Act.put, List.setIfInBounds_toArray, List.set_cons_zero, List.set_cons_succ]
  refine wpQ_run rfl (.bool true) (fun w hw => by simp [go_sem]) ?_
  simp only [Act.put, List.setIfInBounds_toArray, List.set_cons_zero, List.set_cons_succ]
  refine wpQ_load_box rfl 23 _ rfl hA (by rfl) hA.lt Tryd.underlying23 rfl (by kernel_rfl) ?_
  simp only [Act.put, List.setIfInBounds_toArray, List.set_cons_zero, List.set_cons_succ]
  refine wpQ_load_box rfl 23 _ rfl hA (by rfl) hA.lt Tryd.underlying23 rfl (by kernel_rfl) ?_
  simp only [Act.put, List.setIfInBounds_toArray, List.set_cons_zero, List.set_cons_succ]
  refine wpQ_call rfl 16 #[.agg #[.bool a.p, .int .i64 a.f, .bool a.q, .int .i64 a.t], .agg #[.bool a.p, .int .i64 a.f, .bool a.q, .int .i64 a.t]] (fun w => by simp [go_sem]) _ (Nat.le_refl _) (CV.out) ?_
  simp only [Act.put, List.setIfInBounds_toArray, List.set_cons_zero, List.set_cons_succ]
  refine wpQ_run rfl (.int .i64 j) (fun w hw => by simp [go_sem]) ?_
  simp only [Act.put, List.setIfInBounds_toArray, List.set_cons_zero, List.set_cons_succ]
  refine wpQ_call rfl 17 #[.agg #[.bool mv.p, .int .i64 mv.f, .bool mv.q, .int .i64 mv.t], .int .i64 j] (fun w => by simp [go_sem]) _ (Nat.le_refl _) (IV.out) ?_
  simp only [Act.put, List.setIfInBounds_toArray, List.set_cons_zero, List.set_cons_succ]
  refine wpQ_load_box rfl 23 _ rfl hA (by rfl) hA.lt Tryd.underlying23 rfl (by kernel_rfl) ?_
  simp only [Act.put, List.setIfInBounds_toArray, List.set_cons_zero, List.set_cons_succ]
  refine wpQ_run rfl (.int .i64 j) (fun w hw => by simp [go_sem]) ?_
  simp only [Act.put, List.setIfInBounds_toArray, List.set_cons_zero, List.set_cons_succ]
  refine wpQ_call rfl 17 #[.agg #[.bool a.p, .int .i64 a.f, .bool a.q, .int .i64 a.t], .int .i64 j] (fun w => by simp [go_sem]) _ (Nat.le_refl _) (IA.out) ?_
  simp only [Act.put, List.setIfInBounds_toArray, List.set_cons_zero, List.set_cons_succ]
  refine wpQ_run rfl (.bool true) (fun w hw => by simp [go_sem]) ?_
  simp only [Act.put, List.setIfInBounds_toArray, List.set_cons_zero, List.set_cons_succ]
  refine wpQ_run rfl (.bool true) (fun w hw => by simp [go_sem]) ?_
  simp only [Act.put, List.setIfInBounds_toArray, List.set_cons_zero, List.set_cons_succ]
  refine wpQ_run rfl (.bool true) (fun w hw => by simp [go_sem]) ?_
  simp only [Act.put, List.setIfInBounds_toArray, List.set_cons_zero, List.set_cons_succ]
  refine wpQ_load_box rfl 23 _ rfl hA (by rfl) hA.lt Tryd.underlying23 rfl (by kernel_rfl) ?_
  simp only [Act.put, List.setIfInBounds_toArray, List.set_cons_zero, List.set_cons_succ]
  refine wpQ_run rfl (.agg #[.bool false, .int .i64 0, .bool false, .int .i64 0]) (fun w hw => by simp [go_sem]) ?_
  simp only [Act.put, List.setIfInBounds_toArray, List.set_cons_zero, List.set_cons_succ]
  refine wpQ_call rfl 16 #[.agg #[.bool a.p, .int .i64 a.f, .bool a.q, .int .i64 a.t], .agg #[.bool false, .int .i64 0, .bool false, .int .i64 0]] (fun w => by simp [go_sem]) _ (Nat.le_refl _) (CN.out) ?_
  simp only [Act.put, List.setIfInBounds_toArray, List.set_cons_zero, List.set_cons_succ]
  refine wpQ_run rfl (.int .i64 j) (fun w hw => by simp [go_sem]) ?_
  simp only [Act.put, List.setIfInBounds_toArray, List.set_cons_zero, List.set_cons_succ]
  refine wpQ_call rfl 17 #[.agg #[.bool mn.p, .int .i64 mn.f, .bool mn.q, .int .i64 mn.t], .int .i64 j] (fun w => by simp [go_sem]) _ (Nat.le_refl _) (IN.out) ?_
  simp only [Act.put, List.setIfInBounds_toArray, List.set_cons_zero, List.set_cons_succ]
  refine wpQ_load_box rfl 23 _ rfl hA (by rfl) hA.lt Tryd.underlying23 rfl (by kernel_rfl) ?_
  simp only [Act.put, List.setIfInBounds_toArray, List.set_cons_zero, List.set_cons_succ]
  refine wpQ_run rfl (.int .i64 j) (fun w hw => by simp [go_sem]) ?_
  simp only [Act.put, List.setIfInBounds_toArray, List.set_cons_zero, List.set_cons_succ]
  refine wpQ_call rfl 17 #[.agg #[.bool a.p, .int .i64 a.f, .bool a.q, .int .i64 a.t], .int .i64 j] (fun w => by simp [go_sem]) _ (Nat.le_refl _) (IA.out) ?_
  simp only [Act.put, List.setIfInBounds_toArray, List.set_cons_zero, List.set_cons_succ]
  refine wpQ_run rfl (.bool true) (fun w hw => by simp [go_sem]) ?_
  simp only [Act.put, List.setIfInBounds_toArray, List.set_cons_zero, List.set_cons_succ]
  refine wpQ_run rfl (.bool true) (fun w hw => by simp [go_sem]) ?_
  simp only [Act.put, List.setIfInBounds_toArray, List.set_cons_zero, List.set_cons_succ]
  refine wpQ_run rfl (.bool true) (fun w hw => by simp [go_sem]) ?_
  simp only [Act.put, List.setIfInBounds_toArray, List.set_cons_zero, List.set_cons_succ]
  refine wpQ_callB rfl 11 #[] (fun w' => by simp [go_sem]) (.bool true) (Nat.le_refl _) (fun w' hw => awake_any w' (HT.out.after (hB.trans (hw.mono hS)))) ?_
  simp only [Act.put, List.setIfInBounds_toArray, List.set_cons_zero, List.set_cons_succ]
  refine wpQ_run rfl (.bool true) (fun w hw => by simp [go_sem]) ?_
  simp only [Act.put, List.setIfInBounds_toArray, List.set_cons_zero, List.set_cons_succ]
  refine wpQ_run rfl (.bool true) (fun w hw => by simp [go_sem]) ?_
  simp only [Act.put, List.setIfInBounds_toArray, List.set_cons_zero, List.set_cons_succ]
  intro v13 bv13
  replace hA := hA.after bv13
  replace hD := hD.after bv13
  replace hE := hE.after bv13
  replace hX := hX.after bv13
  replace hY := hY.after bv13
  replace hQ := hQ.after bv13
  replace hU := hU.after bv13
  replace hB := hB.trans (bv13.mono hS)
  replace hS := Nat.le_trans hS bv13.size
  clear bv13
  go_wp2_with fail
  go_ret
  exact ⟨rfl, hB⟩

theorem WindowTurns_walk (p0 : Bool) (f0 : Int) (q0 : Bool) (t0 : Int) (p1 : Bool) (f1 : Int) (q1 : Bool) (t1 : Int) (p2 : Bool) (f2 : Int) (q2 : Bool) (t2 : Int) (j : Int) (w : World) (ht : Tab w) (hj : (Lit.int .i64 j).wf = true) : Calls Tryd.prog 5 #[.agg #[.bool p0, .int .i64 f0, .bool q0, .int .i64 t0], .agg #[.bool p1, .int .i64 f1, .bool q1, .int .i64 t1], .agg #[.bool p2, .int .i64 f2, .bool q2, .int .i64 t2], .int .i64 j] w fun e w' => e = .returned (.bool true) ∧ Below w.heap.size w w' :=
  turns_walk ⟨p0, f0, q0, t0⟩ ⟨p1, f1, q1, t1⟩ ⟨p2, f2, q2, t2⟩ j w ht

end Go.Proofs.YtigopfeamjhdpaaDoor

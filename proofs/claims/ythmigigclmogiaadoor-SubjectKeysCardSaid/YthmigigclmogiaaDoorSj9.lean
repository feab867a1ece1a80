/- The program's right: the walk. -/
import Derived.Test.YthmigigclmogiaaDoorSj8
namespace Go.Proofs.YthmigigclmogiaaDoor
open Go.RowKit
set_option linter.unusedSimpArgs false
set_option linter.unusedVariables false

set_option maxHeartbeats 32000000 in
set_option maxRecDepth 100000 in
theorem rightJ_any (s : Sj) : ∀ (v : JV) (m deep : Nat) (w : World), RdJ (fun _ => True) w v s → s.great m = false → deep ≤ 4 → Calls Tryd.prog 27 #[v.val, .int .i64 deep] w fun e w' => e = .returned (.bool (s.right deep)) ∧ Below w.heap.size w w' := by
  induction s using Sj.ind with
  | h kd sb da ns kk ks ih =>
  intro v m deep w hr hg hd
  have IH := Lib.hid ih
  clear ih
  have HRV := Lib.hid hr
  obtain ⟨g1, g2, g3, g4, g5, g6⟩ := greatJ_no hg
  have HG := Lib.hid (greatL_no g6)
  clear g5 g6 hg
  obtain ⟨hkd, hsb, hkk, hs1, ⟨Z, hN⟩, hn, ⟨K, hrow, hk⟩, hk0, hk1⟩ := hr.all2
  obtain ⟨vkd, vs, a1, n1, c1, a2, n2, c2, vk, a3, n3, c3⟩ := v
  dsimp only at hkd hsb hkk hs1 hN hn hrow
  obtain rfl : vkd = kd := hkd
  obtain rfl : vs = sb := hsb
  obtain rfl : vk = kk := hkk
  subst hn
  have HS := Lib.hid hs1
  have HR := Lib.hid hrow
  have HK := Lib.hid hk
  have HNS := Lib.hid hN.1
  have HN2 := Lib.hid hN.1.2.2.2.1
  have HN1 := Lib.hid hs1.1
  have hnc1 := Nat.le_trans hs1.2.1 hs1.2.2.1
  have hnc2 := Nat.le_trans hN.1.1 hN.1.2.1
  have hnc3 := Nat.le_trans hrow.1 hrow.2.1
  unfold maxLen at hnc1 hnc2 hnc3
  clear hs1 hrow hk hN hr
  have HD := Lib.hid (right_def vkd vs da ns vk ks deep)
  generalize (Sj.mk vkd vs da ns vk ks).right deep = R at *
  have CP := Lib.hid (fun w' (h : Below w.heap.size w w') => plain_any2 ⟨vkd, vs, a1, n1, c1, a2, n2, c2, vk, a3, ks.length, c3⟩ w' (HRV.out.after h) (by omega))
  generalize pl vs da vk ks = P at *
  have CN := Lib.hid (fun w' (h : Below w.heap.size w w') => conNames_any a2 n2 c2 Z ns w' (HNS.out.after h))
  have B : Below w.heap.size w ((w.alloc (.cells #[.int .u8 vkd, .bool vs, .slice a1 n1 c1, .slice a2 n2 c2, .int .i64 vk, .slice a3 ks.length c3] 28)).alloc (.cells #[.int .i64 deep] 3)) := ((Below.refl _ _).alloc (Nat.le_refl _) _).alloc (by simp) _
  have X := Lib.hid ((Box.new w 28 #[.int .u8 vkd, .bool vs, .slice a1 n1 c1, .slice a2 n2 c2, .int .i64 vk, .slice a3 ks.length c3]).alloc (.cells #[.int .i64 deep] 3))
  have Y : Hid (Box ((w.alloc (.cells #[.int .u8 vkd, .bool vs, .slice a1 n1 c1, .slice a2 n2 c2, .int .i64 vk, .slice a3 ks.length c3] 28)).alloc (.cells #[.int .i64 deep] 3)) (w.heap.size + 1) 3 #[.int .i64 deep]) := Lib.hid (by
    have := Box.new (w.alloc (.cells #[.int .u8 vkd, .bool vs, .slice a1 n1 c1, .slice a2 n2 c2, .int .i64 vk, .slice a3 ks.length c3] 28)) 3 #[.int .i64 deep]
    simpa using this)
  show Calls _ _ #[.agg #[.int .u8 vkd, .bool vs, .slice a1 n1 c1, .slice a2 n2 c2, .int .i64 vk, .slice a3 ks.length c3], .int .i64 deep] _ _
  go_enter Tryd.func27, Tryd.ntmps27
  go_upto_region 1 with fail
  change Code.wp _ _ _ _ ((w.alloc (.cells #[.int .u8 vkd, .bool vs, .slice a1 n1 c1, .slice a2 n2 c2, .int .i64 vk, .slice a3 ks.length c3] 28)).alloc (.cells #[.int .i64 deep] 3))
  generalize ((w.alloc (.cells #[.int .u8 vkd, .bool vs, .slice a1 n1 c1, .slice a2 n2 c2, .int .i64 vk, .slice a3 ks.length c3] 28)).alloc (.cells #[.int .i64 deep] 3)) = x0 at *
  have q0 := X.out.cell 0 rfl
  by_cases hk1 : vkd = 1
  case pos =>
    have k1 : ((vkd : Int) == 1) = true := by simp; omega
    have HD1 : Hid (R = (P && ns.length == 0)) := Lib.hid (by rw [HD.out, if_pos hk1])
    go_upto_region 3 with fail
    cases P with
    | false =>
      have HF : Hid (R = false) := Lib.hid (by rw [HD1.out]; rfl)
      go_step
      refine wpList_made 8 x0.heap.size x0 (Below.refl _ _) ?_
      simp only [List.take_succ_cons, List.take_zero, List.drop_succ_cons, List.drop_zero]
      refine wpQ_load_box rfl 28 _ rfl X.out (by rfl) X.out.lt Tryd.underlying28 rfl (by kernel_rfl) ?_
      simp only [Act.put, List.setIfInBounds_toArray, List.set_cons_zero, List.set_cons_succ]
      refine wpQ_callS rfl 36 #[.agg #[.int .u8 vkd, .bool vs, .slice a1 n1 c1, .slice a2 n2 c2, .int .i64 vk, .slice a3 ks.length c3]] (fun w' => by simp [go_sem]) (.bool false) (Nat.le_refl _) (fun w' hw => CP.out w' (B.trans (hw.mono B.size))) ?_
      simp only [Act.put, List.setIfInBounds_toArray, List.set_cons_zero, List.set_cons_succ]
      refine wpQ_run rfl (.bool false) (fun w' hw => by simp [go_sem]) ?_
      simp only [Act.put, List.setIfInBounds_toArray, List.set_cons_zero, List.set_cons_succ]
      refine wpQ_skip rfl ?_
      simp only [Act.put, List.setIfInBounds_toArray, List.set_cons_zero, List.set_cons_succ]
      refine wpQ_skip rfl ?_
      simp only [Act.put, List.setIfInBounds_toArray, List.set_cons_zero, List.set_cons_succ]
      refine wpQ_skip rfl ?_
      simp only [Act.put, List.setIfInBounds_toArray, List.set_cons_zero, List.set_cons_succ]
      refine wpQ_skip rfl ?_
      simp only [Act.put, List.setIfInBounds_toArray, List.set_cons_zero, List.set_cons_succ]
      refine wpQ_run rfl (.bool false) (fun w' hw => by simp [go_sem]) ?_
      simp only [Act.put, List.setIfInBounds_toArray, List.set_cons_zero, List.set_cons_succ]
      intro y1 hb1
      replace B := B.trans (hb1.mono B.size)
      clear hb1
      go_wp2_with fail
      go_ret
      exact ⟨by rw [HF.out]; rfl, B⟩
    | true =>
      by_cases hq : n2 = 0
      case pos =>
        have HF : Hid (R = true) := Lib.hid (by rw [HD1.out, show (ns.length == 0) = true from beq_iff_eq.2 (by have := HN2.out; omega)]; rfl)
        go_step
        refine wpList_made 8 x0.heap.size x0 (Below.refl _ _) ?_
        simp only [List.take_succ_cons, List.take_zero, List.drop_succ_cons, List.drop_zero]
        refine wpQ_load_box rfl 28 _ rfl X.out (by rfl) X.out.lt Tryd.underlying28 rfl (by kernel_rfl) ?_
        simp only [Act.put, List.setIfInBounds_toArray, List.set_cons_zero, List.set_cons_succ]
        refine wpQ_callS rfl 36 #[.agg #[.int .u8 vkd, .bool vs, .slice a1 n1 c1, .slice a2 n2 c2, .int .i64 vk, .slice a3 ks.length c3]] (fun w' => by simp [go_sem]) (.bool true) (Nat.le_refl _) (fun w' hw => CP.out w' (B.trans (hw.mono B.size))) ?_
        simp only [Act.put, List.setIfInBounds_toArray, List.set_cons_zero, List.set_cons_succ]
        refine wpQ_run rfl (.bool true) (fun w' hw => by simp [go_sem]) ?_
        simp only [Act.put, List.setIfInBounds_toArray, List.set_cons_zero, List.set_cons_succ]
        refine wpQ_run rfl (.pointer (some ⟨w.heap.size, 3, none⟩)) (fun w' hw => by simp [go_sem]) ?_
        simp only [Act.put, List.setIfInBounds_toArray, List.set_cons_zero, List.set_cons_succ]
        refine wpQ_run rfl (.slice a2 n2 c2) (fun w' hw => by have := (X.out.after hw).cell 3 rfl; simp [go_sem, this]) ?_
        simp only [Act.put, List.setIfInBounds_toArray, List.set_cons_zero, List.set_cons_succ]
        refine wpQ_run rfl (.int .i64 n2) (fun w' hw => by simp [go_sem]) ?_
        simp only [Act.put, List.setIfInBounds_toArray, List.set_cons_zero, List.set_cons_succ]
        refine wpQ_run rfl (.bool true) (fun w' hw => by simp [go_sem]; omega) ?_
        simp only [Act.put, List.setIfInBounds_toArray, List.set_cons_zero, List.set_cons_succ]
        refine wpQ_run rfl (.bool true) (fun w' hw => by simp [go_sem]) ?_
        simp only [Act.put, List.setIfInBounds_toArray, List.set_cons_zero, List.set_cons_succ]
        intro y1 hb1
        replace B := B.trans (hb1.mono B.size)
        clear hb1
        go_wp2_with fail
        go_ret
        exact ⟨by rw [HF.out]; rfl, B⟩
      case neg =>
        have HF : Hid (R = false) := Lib.hid (by rw [HD1.out, show (ns.length == 0) = false from beq_eq_false_iff_ne.2 (by have := HN2.out; omega)]; rfl)
        go_step
        refine wpList_made 8 x0.heap.size x0 (Below.refl _ _) ?_
        simp only [List.take_succ_cons, List.take_zero, List.drop_succ_cons, List.drop_zero]
        refine wpQ_load_box rfl 28 _ rfl X.out (by rfl) X.out.lt Tryd.underlying28 rfl (by kernel_rfl) ?_
        simp only [Act.put, List.setIfInBounds_toArray, List.set_cons_zero, List.set_cons_succ]
        refine wpQ_callS rfl 36 #[.agg #[.int .u8 vkd, .bool vs, .slice a1 n1 c1, .slice a2 n2 c2, .int .i64 vk, .slice a3 ks.length c3]] (fun w' => by simp [go_sem]) (.bool true) (Nat.le_refl _) (fun w' hw => CP.out w' (B.trans (hw.mono B.size))) ?_
        simp only [Act.put, List.setIfInBounds_toArray, List.set_cons_zero, List.set_cons_succ]
        refine wpQ_run rfl (.bool true) (fun w' hw => by simp [go_sem]) ?_
        simp only [Act.put, List.setIfInBounds_toArray, List.set_cons_zero, List.set_cons_succ]
        refine wpQ_run rfl (.pointer (some ⟨w.heap.size, 3, none⟩)) (fun w' hw => by simp [go_sem]) ?_
        simp only [Act.put, List.setIfInBounds_toArray, List.set_cons_zero, List.set_cons_succ]
        refine wpQ_run rfl (.slice a2 n2 c2) (fun w' hw => by have := (X.out.after hw).cell 3 rfl; simp [go_sem, this]) ?_
        simp only [Act.put, List.setIfInBounds_toArray, List.set_cons_zero, List.set_cons_succ]
        refine wpQ_run rfl (.int .i64 n2) (fun w' hw => by simp [go_sem]) ?_
        simp only [Act.put, List.setIfInBounds_toArray, List.set_cons_zero, List.set_cons_succ]
        refine wpQ_run rfl (.bool false) (fun w' hw => by simp [go_sem]; omega) ?_
        simp only [Act.put, List.setIfInBounds_toArray, List.set_cons_zero, List.set_cons_succ]
        refine wpQ_run rfl (.bool false) (fun w' hw => by simp [go_sem]) ?_
        simp only [Act.put, List.setIfInBounds_toArray, List.set_cons_zero, List.set_cons_succ]
        intro y1 hb1
        replace B := B.trans (hb1.mono B.size)
        clear hb1
        go_wp2_with fail
        go_ret
        exact ⟨by rw [HF.out]; rfl, B⟩
  case neg =>
    by_cases hk2 : vkd = 2
    case pos =>
      have k1 : ((vkd : Int) == 1) = false := by simp; omega
      have k2 : ((vkd : Int) == 2) = true := by simp; omega
      have HD1 : Hid (R = (P && (decide (0 < ns.length) && (decide (ns.length ≤ 8) && !(ns.any noName))))) := Lib.hid (by rw [HD.out, if_neg hk1, if_pos hk2])
      go_upto_region 6 with fail
      cases P with
      | false =>
        have HF : Hid (R = false) := Lib.hid (by rw [HD1.out]; rfl)
        go_step
        refine wpList_made 21 x0.heap.size x0 (Below.refl _ _) ?_
        simp only [List.take_succ_cons, List.take_zero, List.drop_succ_cons, List.drop_zero]
        refine wpQ_load_box rfl 28 _ rfl X.out (by rfl) X.out.lt Tryd.underlying28 rfl (by kernel_rfl) ?_
        simp only [Act.put, List.setIfInBounds_toArray, List.set_cons_zero, List.set_cons_succ]
        refine wpQ_callS rfl 36 #[.agg #[.int .u8 vkd, .bool vs, .slice a1 n1 c1, .slice a2 n2 c2, .int .i64 vk, .slice a3 ks.length c3]] (fun w' => by simp [go_sem]) (.bool false) (Nat.le_refl _) (fun w' hw => CP.out w' (B.trans (hw.mono B.size))) ?_
        simp only [Act.put, List.setIfInBounds_toArray, List.set_cons_zero, List.set_cons_succ]
        refine wpQ_run rfl (.bool false) (fun w' hw => by simp [go_sem]) ?_
        simp only [Act.put, List.setIfInBounds_toArray, List.set_cons_zero, List.set_cons_succ]
        refine wpQ_skip rfl ?_
        simp only [Act.put, List.setIfInBounds_toArray, List.set_cons_zero, List.set_cons_succ]
        refine wpQ_skip rfl ?_
        simp only [Act.put, List.setIfInBounds_toArray, List.set_cons_zero, List.set_cons_succ]
        refine wpQ_skip rfl ?_
        simp only [Act.put, List.setIfInBounds_toArray, List.set_cons_zero, List.set_cons_succ]
        refine wpQ_skip rfl ?_
        simp only [Act.put, List.setIfInBounds_toArray, List.set_cons_zero, List.set_cons_succ]
        refine wpQ_run rfl (.bool false) (fun w' hw => by simp [go_sem]) ?_
        simp only [Act.put, List.setIfInBounds_toArray, List.set_cons_zero, List.set_cons_succ]
        refine wpQ_run rfl (.bool false) (fun w' hw => by simp [go_sem]) ?_
        simp only [Act.put, List.setIfInBounds_toArray, List.set_cons_zero, List.set_cons_succ]
        refine wpQ_skip rfl ?_
        simp only [Act.put, List.setIfInBounds_toArray, List.set_cons_zero, List.set_cons_succ]
        refine wpQ_skip rfl ?_
        simp only [Act.put, List.setIfInBounds_toArray, List.set_cons_zero, List.set_cons_succ]
        refine wpQ_skip rfl ?_
        simp only [Act.put, List.setIfInBounds_toArray, List.set_cons_zero, List.set_cons_succ]
        refine wpQ_skip rfl ?_
        simp only [Act.put, List.setIfInBounds_toArray, List.set_cons_zero, List.set_cons_succ]
        refine wpQ_run rfl (.bool false) (fun w' hw => by simp [go_sem]) ?_
        simp only [Act.put, List.setIfInBounds_toArray, List.set_cons_zero, List.set_cons_succ]
        refine wpQ_run rfl (.bool false) (fun w' hw => by simp [go_sem]) ?_
        simp only [Act.put, List.setIfInBounds_toArray, List.set_cons_zero, List.set_cons_succ]
        refine wpQ_skip rfl ?_
        simp only [Act.put, List.setIfInBounds_toArray, List.set_cons_zero, List.set_cons_succ]
        refine wpQ_skip rfl ?_
        simp only [Act.put, List.setIfInBounds_toArray, List.set_cons_zero, List.set_cons_succ]
        refine wpQ_skip rfl ?_
        simp only [Act.put, List.setIfInBounds_toArray, List.set_cons_zero, List.set_cons_succ]
        refine wpQ_skip rfl ?_
        simp only [Act.put, List.setIfInBounds_toArray, List.set_cons_zero, List.set_cons_succ]
        refine wpQ_skip rfl ?_
        simp only [Act.put, List.setIfInBounds_toArray, List.set_cons_zero, List.set_cons_succ]
        refine wpQ_run rfl (.bool false) (fun w' hw => by simp [go_sem]) ?_
        simp only [Act.put, List.setIfInBounds_toArray, List.set_cons_zero, List.set_cons_succ]
        intro y1 hb1
        replace B := B.trans (hb1.mono B.size)
        clear hb1
        go_wp2_with fail
        go_ret
        exact ⟨by rw [HF.out]; rfl, B⟩
      | true =>
        by_cases hq : 0 < n2
        case neg =>
          have HF : Hid (R = false) := Lib.hid (by rw [HD1.out, decide_eq_false (show ¬ 0 < ns.length by have := HN2.out; omega)]; rfl)
          go_step
          refine wpList_made 21 x0.heap.size x0 (Below.refl _ _) ?_
          simp only [List.take_succ_cons, List.take_zero, List.drop_succ_cons, List.drop_zero]
          refine wpQ_load_box rfl 28 _ rfl X.out (by rfl) X.out.lt Tryd.underlying28 rfl (by kernel_rfl) ?_
          simp only [Act.put, List.setIfInBounds_toArray, List.set_cons_zero, List.set_cons_succ]
          refine wpQ_callS rfl 36 #[.agg #[.int .u8 vkd, .bool vs, .slice a1 n1 c1, .slice a2 n2 c2, .int .i64 vk, .slice a3 ks.length c3]] (fun w' => by simp [go_sem]) (.bool true) (Nat.le_refl _) (fun w' hw => CP.out w' (B.trans (hw.mono B.size))) ?_
          simp only [Act.put, List.setIfInBounds_toArray, List.set_cons_zero, List.set_cons_succ]
          refine wpQ_run rfl (.bool true) (fun w' hw => by simp [go_sem]) ?_
          simp only [Act.put, List.setIfInBounds_toArray, List.set_cons_zero, List.set_cons_succ]
          refine wpQ_run rfl (.pointer (some ⟨w.heap.size, 3, none⟩)) (fun w' hw => by simp [go_sem]) ?_
          simp only [Act.put, List.setIfInBounds_toArray, List.set_cons_zero, List.set_cons_succ]
          refine wpQ_run rfl (.slice a2 n2 c2) (fun w' hw => by have := (X.out.after hw).cell 3 rfl; simp [go_sem, this]) ?_
          simp only [Act.put, List.setIfInBounds_toArray, List.set_cons_zero, List.set_cons_succ]
          refine wpQ_run rfl (.int .i64 n2) (fun w' hw => by simp [go_sem]) ?_
          simp only [Act.put, List.setIfInBounds_toArray, List.set_cons_zero, List.set_cons_succ]
          refine wpQ_run rfl (.bool false) (fun w' hw => by simp [go_sem]; omega) ?_
          simp only [Act.put, List.setIfInBounds_toArray, List.set_cons_zero, List.set_cons_succ]
          refine wpQ_run rfl (.bool false) (fun w' hw => by simp [go_sem]) ?_
          simp only [Act.put, List.setIfInBounds_toArray, List.set_cons_zero, List.set_cons_succ]
          refine wpQ_run rfl (.bool false) (fun w' hw => by simp [go_sem]) ?_
          simp only [Act.put, List.setIfInBounds_toArray, List.set_cons_zero, List.set_cons_succ]
          refine wpQ_skip rfl ?_
          simp only [Act.put, List.setIfInBounds_toArray, List.set_cons_zero, List.set_cons_succ]
          refine wpQ_skip rfl ?_
          simp only [Act.put, List.setIfInBounds_toArray, List.set_cons_zero, List.set_cons_succ]
          refine wpQ_skip rfl ?_
          simp only [Act.put, List.setIfInBounds_toArray, List.set_cons_zero, List.set_cons_succ]
          refine wpQ_skip rfl ?_
          simp only [Act.put, List.setIfInBounds_toArray, List.set_cons_zero, List.set_cons_succ]
          refine wpQ_run rfl (.bool false) (fun w' hw => by simp [go_sem]) ?_
          simp only [Act.put, List.setIfInBounds_toArray, List.set_cons_zero, List.set_cons_succ]
          refine wpQ_run rfl (.bool false) (fun w' hw => by simp [go_sem]) ?_
          simp only [Act.put, List.setIfInBounds_toArray, List.set_cons_zero, List.set_cons_succ]
          refine wpQ_skip rfl ?_
          simp only [Act.put, List.setIfInBounds_toArray, List.set_cons_zero, List.set_cons_succ]
          refine wpQ_skip rfl ?_
          simp only [Act.put, List.setIfInBounds_toArray, List.set_cons_zero, List.set_cons_succ]
          refine wpQ_skip rfl ?_
          simp only [Act.put, List.setIfInBounds_toArray, List.set_cons_zero, List.set_cons_succ]
          refine wpQ_skip rfl ?_
          simp only [Act.put, List.setIfInBounds_toArray, List.set_cons_zero, List.set_cons_succ]
          refine wpQ_skip rfl ?_
          simp only [Act.put, List.setIfInBounds_toArray, List.set_cons_zero, List.set_cons_succ]
          refine wpQ_run rfl (.bool false) (fun w' hw => by simp [go_sem]) ?_
          simp only [Act.put, List.setIfInBounds_toArray, List.set_cons_zero, List.set_cons_succ]
          intro y1 hb1
          replace B := B.trans (hb1.mono B.size)
          clear hb1
          go_wp2_with fail
          go_ret
          exact ⟨by rw [HF.out]; rfl, B⟩
        by_cases hq8 : n2 ≤ 8
        case neg =>
          have HF : Hid (R = false) := Lib.hid (by rw [HD1.out, decide_eq_false (show ¬ ns.length ≤ 8 by have := HN2.out; omega)]; simp)
          go_step
          refine wpList_made 21 x0.heap.size x0 (Below.refl _ _) ?_
          simp only [List.take_succ_cons, List.take_zero, List.drop_succ_cons, List.drop_zero]
          refine wpQ_load_box rfl 28 _ rfl X.out (by rfl) X.out.lt Tryd.underlying28 rfl (by kernel_rfl) ?_
          simp only [Act.put, List.setIfInBounds_toArray, List.set_cons_zero, List.set_cons_succ]
          refine wpQ_callS rfl 36 #[.agg #[.int .u8 vkd, .bool vs, .slice a1 n1 c1, .slice a2 n2 c2, .int .i64 vk, .slice a3 ks.length c3]] (fun w' => by simp [go_sem]) (.bool true) (Nat.le_refl _) (fun w' hw => CP.out w' (B.trans (hw.mono B.size))) ?_
          simp only [Act.put, List.setIfInBounds_toArray, List.set_cons_zero, List.set_cons_succ]
          refine wpQ_run rfl (.bool true) (fun w' hw => by simp [go_sem]) ?_
          simp only [Act.put, List.setIfInBounds_toArray, List.set_cons_zero, List.set_cons_succ]
          refine wpQ_run rfl (.pointer (some ⟨w.heap.size, 3, none⟩)) (fun w' hw => by simp [go_sem]) ?_
          simp only [Act.put, List.setIfInBounds_toArray, List.set_cons_zero, List.set_cons_succ]
          refine wpQ_run rfl (.slice a2 n2 c2) (fun w' hw => by have := (X.out.after hw).cell 3 rfl; simp [go_sem, this]) ?_
          simp only [Act.put, List.setIfInBounds_toArray, List.set_cons_zero, List.set_cons_succ]
          refine wpQ_run rfl (.int .i64 n2) (fun w' hw => by simp [go_sem]) ?_
          simp only [Act.put, List.setIfInBounds_toArray, List.set_cons_zero, List.set_cons_succ]
          refine wpQ_run rfl (.bool true) (fun w' hw => by simp [go_sem]; omega) ?_
          simp only [Act.put, List.setIfInBounds_toArray, List.set_cons_zero, List.set_cons_succ]
          refine wpQ_run rfl (.bool true) (fun w' hw => by simp [go_sem]) ?_
          simp only [Act.put, List.setIfInBounds_toArray, List.set_cons_zero, List.set_cons_succ]
          refine wpQ_run rfl (.bool true) (fun w' hw => by simp [go_sem]) ?_
          simp only [Act.put, List.setIfInBounds_toArray, List.set_cons_zero, List.set_cons_succ]
          refine wpQ_run rfl (.pointer (some ⟨w.heap.size, 3, none⟩)) (fun w' hw => by simp [go_sem]) ?_
          simp only [Act.put, List.setIfInBounds_toArray, List.set_cons_zero, List.set_cons_succ]
          refine wpQ_run rfl (.slice a2 n2 c2) (fun w' hw => by have := (X.out.after hw).cell 3 rfl; simp [go_sem, this]) ?_
          simp only [Act.put, List.setIfInBounds_toArray, List.set_cons_zero, List.set_cons_succ]
          refine wpQ_run rfl (.int .i64 n2) (fun w' hw => by simp [go_sem]) ?_
          simp only [Act.put, List.setIfInBounds_toArray, List.set_cons_zero, List.set_cons_succ]
          refine wpQ_run rfl (.bool false) (fun w' hw => by simp [go_sem]; omega) ?_
          simp only [Act.put, List.setIfInBounds_toArray, List.set_cons_zero, List.set_cons_succ]
          refine wpQ_run rfl (.bool false) (fun w' hw => by simp [go_sem]) ?_
          simp only [Act.put, List.setIfInBounds_toArray, List.set_cons_zero, List.set_cons_succ]
          refine wpQ_run rfl (.bool false) (fun w' hw => by simp [go_sem]) ?_
          simp only [Act.put, List.setIfInBounds_toArray, List.set_cons_zero, List.set_cons_succ]
          refine wpQ_skip rfl ?_
          simp only [Act.put, List.setIfInBounds_toArray, List.set_cons_zero, List.set_cons_succ]
          refine wpQ_skip rfl ?_
          simp only [Act.put, List.setIfInBounds_toArray, List.set_cons_zero, List.set_cons_succ]
          refine wpQ_skip rfl ?_
          simp only [Act.put, List.setIfInBounds_toArray, List.set_cons_zero, List.set_cons_succ]
          refine wpQ_skip rfl ?_
          simp only [Act.put, List.setIfInBounds_toArray, List.set_cons_zero, List.set_cons_succ]
          refine wpQ_skip rfl ?_
          simp only [Act.put, List.setIfInBounds_toArray, List.set_cons_zero, List.set_cons_succ]
          refine wpQ_run rfl (.bool false) (fun w' hw => by simp [go_sem]) ?_
          simp only [Act.put, List.setIfInBounds_toArray, List.set_cons_zero, List.set_cons_succ]
          intro y1 hb1
          replace B := B.trans (hb1.mono B.size)
          clear hb1
          go_wp2_with fail
          go_ret
          exact ⟨by rw [HF.out]; rfl, B⟩
        have HF : Hid (R = !(ns.any noName)) := Lib.hid (by rw [HD1.out, decide_eq_true (show 0 < ns.length by have := HN2.out; omega), decide_eq_true (show ns.length ≤ 8 by have := HN2.out; omega)]; rfl)
        generalize ns.any noName = r at *
        go_step
        refine wpList_made 21 x0.heap.size x0 (Below.refl _ _) ?_
        simp only [List.take_succ_cons, List.take_zero, List.drop_succ_cons, List.drop_zero]
        refine wpQ_load_box rfl 28 _ rfl X.out (by rfl) X.out.lt Tryd.underlying28 rfl (by kernel_rfl) ?_
        simp only [Act.put, List.setIfInBounds_toArray, List.set_cons_zero, List.set_cons_succ]
        refine wpQ_callS rfl 36 #[.agg #[.int .u8 vkd, .bool vs, .slice a1 n1 c1, .slice a2 n2 c2, .int .i64 vk, .slice a3 ks.length c3]] (fun w' => by simp [go_sem]) (.bool true) (Nat.le_refl _) (fun w' hw => CP.out w' (B.trans (hw.mono B.size))) ?_
        simp only [Act.put, List.setIfInBounds_toArray, List.set_cons_zero, List.set_cons_succ]
        refine wpQ_run rfl (.bool true) (fun w' hw => by simp [go_sem]) ?_
        simp only [Act.put, List.setIfInBounds_toArray, List.set_cons_zero, List.set_cons_succ]
        refine wpQ_run rfl (.pointer (some ⟨w.heap.size, 3, none⟩)) (fun w' hw => by simp [go_sem]) ?_
        simp only [Act.put, List.setIfInBounds_toArray, List.set_cons_zero, List.set_cons_succ]
        refine wpQ_run rfl (.slice a2 n2 c2) (fun w' hw => by have := (X.out.after hw).cell 3 rfl; simp [go_sem, this]) ?_
        simp only [Act.put, List.setIfInBounds_toArray, List.set_cons_zero, List.set_cons_succ]
        refine wpQ_run rfl (.int .i64 n2) (fun w' hw => by simp [go_sem]) ?_
        simp only [Act.put, List.setIfInBounds_toArray, List.set_cons_zero, List.set_cons_succ]
        refine wpQ_run rfl (.bool true) (fun w' hw => by simp [go_sem]; omega) ?_
        simp only [Act.put, List.setIfInBounds_toArray, List.set_cons_zero, List.set_cons_succ]
        refine wpQ_run rfl (.bool true) (fun w' hw => by simp [go_sem]) ?_
        simp only [Act.put, List.setIfInBounds_toArray, List.set_cons_zero, List.set_cons_succ]
        refine wpQ_run rfl (.bool true) (fun w' hw => by simp [go_sem]) ?_
        simp only [Act.put, List.setIfInBounds_toArray, List.set_cons_zero, List.set_cons_succ]
        refine wpQ_run rfl (.pointer (some ⟨w.heap.size, 3, none⟩)) (fun w' hw => by simp [go_sem]) ?_
        simp only [Act.put, List.setIfInBounds_toArray, List.set_cons_zero, List.set_cons_succ]
        refine wpQ_run rfl (.slice a2 n2 c2) (fun w' hw => by have := (X.out.after hw).cell 3 rfl; simp [go_sem, this]) ?_
        simp only [Act.put, List.setIfInBounds_toArray, List.set_cons_zero, List.set_cons_succ]
        refine wpQ_run rfl (.int .i64 n2) (fun w' hw => by simp [go_sem]) ?_
        simp only [Act.put, List.setIfInBounds_toArray, List.set_cons_zero, List.set_cons_succ]
        refine wpQ_run rfl (.bool true) (fun w' hw => by simp [go_sem]; omega) ?_
        simp only [Act.put, List.setIfInBounds_toArray, List.set_cons_zero, List.set_cons_succ]
        refine wpQ_run rfl (.bool true) (fun w' hw => by simp [go_sem]) ?_
        simp only [Act.put, List.setIfInBounds_toArray, List.set_cons_zero, List.set_cons_succ]
        refine wpQ_run rfl (.bool true) (fun w' hw => by simp [go_sem]) ?_
        simp only [Act.put, List.setIfInBounds_toArray, List.set_cons_zero, List.set_cons_succ]
        refine wpQ_run rfl (.pointer (some ⟨w.heap.size, 3, none⟩)) (fun w' hw => by simp [go_sem]) ?_
        simp only [Act.put, List.setIfInBounds_toArray, List.set_cons_zero, List.set_cons_succ]
        refine wpQ_run rfl (.slice a2 n2 c2) (fun w' hw => by have := (X.out.after hw).cell 3 rfl; simp [go_sem, this]) ?_
        simp only [Act.put, List.setIfInBounds_toArray, List.set_cons_zero, List.set_cons_succ]
        refine wpQ_run rfl (.func (.func 37) #[] #[]) (fun w' hw => by simp [go_sem]) ?_
        simp only [Act.put, List.setIfInBounds_toArray, List.set_cons_zero, List.set_cons_succ]
        refine wpQ_callS rfl 38 #[.slice a2 n2 c2, .func (.func 37) #[] #[]] (fun w' => by simp [go_sem]) (.bool r) (Nat.le_refl _) (fun w' hw => CN.out w' (B.trans (hw.mono B.size))) ?_
        simp only [Act.put, List.setIfInBounds_toArray, List.set_cons_zero, List.set_cons_succ]
        refine wpQ_run rfl (.bool (!r)) (fun w' hw => by simp [go_sem]) ?_
        simp only [Act.put, List.setIfInBounds_toArray, List.set_cons_zero, List.set_cons_succ]
        refine wpQ_run rfl (.bool (!r)) (fun w' hw => by simp [go_sem]) ?_
        simp only [Act.put, List.setIfInBounds_toArray, List.set_cons_zero, List.set_cons_succ]
        intro y1 hb1
        replace B := B.trans (hb1.mono B.size)
        clear hb1
        go_wp2_with fail
        go_ret
        exact ⟨by rw [HF.out]; rfl, B⟩
    case neg =>
      by_cases hk3 : vkd = 3
      case neg =>
        have k1 : ((vkd : Int) == 1) = false := by simp; omega
        have k2 : ((vkd : Int) == 2) = false := by simp; omega
        have k3 : ((vkd : Int) == 3) = false := by simp; omega
        have HF : Hid (R = false) := Lib.hid (by rw [HD.out, if_neg hk1, if_neg hk2, if_neg hk3])
        go_wp2_with fail
        go_ret
        exact ⟨by rw [HF.out]; rfl, B⟩
      have k1 : ((vkd : Int) == 1) = false := by simp; omega
      have k2 : ((vkd : Int) == 2) = false := by simp; omega
      have k3 : ((vkd : Int) == 3) = true := by simp; omega
      have HD1 : Hid (R = (!(badJ vs da ns vk ks deep) && !(Sj.wrongL ks (deep + 1)))) := Lib.hid (by rw [HD.out, if_neg hk1, if_neg hk2, if_pos hk3])
      have HB := Lib.hid (show badJ vs da ns vk ks deep = (decide (3 < deep) || (vs || (decide (0 < da.length + ns.length) || (decide (vk < 1) || (decide ((ks.length : Int) < vk) || decide (8 < ks.length)))))) from rfl)
      generalize badJ vs da ns vk ks deep = b at *
      have hsum : IntKind.i64.wrap ((n1 : Int) + (n2 : Int)) = (n1 : Int) + (n2 : Int) := by have h1 := HN1.out; have h2 := HN2.out; rw [IntKind.wrap_i64]; omega
      have y0 := Y.out.cell 0 rfl
      have q1 := X.out.cell 1 rfl
      have q2 := X.out.cell 2 rfl
      have q3 := X.out.cell 3 rfl
      have q4 := X.out.cell 4 rfl
      have q5 := X.out.cell 5 rfl
      by_cases hb : (3 : Int) < deep
      case pos =>
        have HF : Hid (R = false) := Lib.hid (by rw [HD1.out, show b = true from by rw [HB.out, decide_eq_true (show 3 < deep by omega)]; rfl]; rfl)
        go_wp2_with fail
        go_ret
        exact ⟨by rw [HF.out]; rfl, B⟩
      have hb1 := hb
      clear hb
      by_cases hb : vs = true
      case pos =>
        subst hb
        have HF : Hid (R = false) := Lib.hid (by rw [HD1.out, show b = true from by rw [HB.out]; simp]; rfl)
        go_wp2_with fail
        go_ret
        exact ⟨by rw [HF.out]; rfl, B⟩
      rw [Bool.not_eq_true] at hb
      subst hb
      by_cases hb : (0 : Int) < (n1 : Int) + (n2 : Int)
      case pos =>
        have HF : Hid (R = false) := Lib.hid (by rw [HD1.out, show b = true from by rw [HB.out, decide_eq_true (show 0 < da.length + ns.length by have h1 := HN1.out; have h2 := HN2.out; omega)]; simp]; rfl)
        go_wp2_with fail
        go_ret
        exact ⟨by rw [HF.out]; rfl, B⟩
      have hb3 := hb
      clear hb
      by_cases hb : vk < 1
      case pos =>
        have HF : Hid (R = false) := Lib.hid (by rw [HD1.out, show b = true from by rw [HB.out, decide_eq_true hb]; simp]; rfl)
        go_wp2_with fail
        go_ret
        exact ⟨by rw [HF.out]; rfl, B⟩
      have hb4 := hb
      clear hb
      by_cases hb : (ks.length : Int) < vk
      case pos =>
        have HF : Hid (R = false) := Lib.hid (by rw [HD1.out, show b = true from by rw [HB.out, decide_eq_true hb]; simp]; rfl)
        go_wp2_with fail
        go_ret
        exact ⟨by rw [HF.out]; rfl, B⟩
      have hb5 := hb
      clear hb
      by_cases hb : (8 : Int) < ks.length
      case pos =>
        have HF : Hid (R = false) := Lib.hid (by rw [HD1.out, show b = true from by rw [HB.out, decide_eq_true (show 8 < ks.length by omega)]; simp]; rfl)
        go_wp2_with fail
        go_ret
        exact ⟨by rw [HF.out]; rfl, B⟩
      have hb6 := hb
      clear hb
      have HF : Hid (R = !(ks.any (fun k => !(k.right (deep + 1))))) := Lib.hid (by rw [HD1.out, show b = false from by rw [HB.out, decide_eq_false (show ¬ 3 < deep by omega), decide_eq_false (show ¬ 0 < da.length + ns.length by have h1 := HN1.out; have h2 := HN2.out; omega), decide_eq_false hb4, decide_eq_false hb5, decide_eq_false (show ¬ 8 < ks.length by omega)]; rfl, wrongL_any]; rfl)
      have HA : Hid (AnsJ ks K (w.heap.size + 1) (fun k => !(k.right (deep + 1))) x0) := Lib.hid (fun i hi w' hw => right2_of (K i) deep (w.heap.size + 1) (ks[i].right (deep + 1)) w' ((Y.out.after hw).cell 0 rfl) (by omega) (fun w2 hw2 => IH.out _ (List.getElem_mem hi) (K i) (m + 1) (deep + 1) w2 (((HK.out i hi).after (B.trans (hw.mono B.size))).after hw2) (HG.out _ (List.getElem_mem hi)) (by omega)))
      go_wp2_with fail
      refine (conSubs_any a3 ks.length c3 K ks (w.heap.size + 1) (fun k => !(k.right (deep + 1))) x0 (HR.out.after B) rfl HA.out).mono ?_
      rintro e w5 ⟨rfl, hb5⟩
      have B5 := B.trans (hb5.mono B.size)
      go_wp2_with fail
      go_ret
      exact ⟨by rw [HF.out]; rfl, B5⟩

end Go.Proofs.YthmigigclmogiaaDoor

/- field: Root: what it computes. -/
import Derived.Test.YtddgkoheihlbdaaFldInv
import Derived.Test.YtddgkoheihlbdaaSl4
import Derived.Deep.CutRange
import Derived.Deep.RegionHeld3
namespace Go.Proofs.Ytddgkoheihlbdaa
open Go.RowKit

/-- the first try -/
def rt0 (u : Nat) : Nat := pw u (2 ^ 252 - 2)
theorem rt0_def (u : Nat) : rt0 u = pw u (2 ^ 252 - 2) := by unfold rt0; rfl
def rt1 (u : Nat) : Nat := bif rt0 u * rt0 u % P25 == u then rt0 u else rt0 u * pw 2 (2 ^ 253 - 5) % P25
/-- the even root; whether there is one -/
def rtOk (u : Nat) : Bool := rt1 u * rt1 u % P25 == u
def rtN (u : Nat) : Nat := bif rtOk u then (bif rt1 u % 2 == 1 then P25 - rt1 u else rt1 u) else 0
def RetRoot (u : Nat) (w : World) (e : Ending) (w' : World) : Prop := ∃ z : L5, e = .returned (.tuple #[.agg (gArr z.at), .bool (rtOk u)]) ∧ El z (rtN u) ∧ Below w.heap.size w w'

theorem el_zero : El L5.zero 0 := ⟨⟨by decide, by decide, by decide, by decide, by decide⟩, by unfold P25; omega, rfl⟩
theorem el_two : El (ofL 2) 2 := ⟨lt_mono (ofL_lt 2 (by decide)) (by omega), by unfold P25; omega, by rw [ofL_val]; rfl⟩
theorem same_el {x y : L5} {u v : Nat} (hx : El x u) (hy : El y v) (w : World) : Calls Try.prog 23 #[.agg (gArr x.at), .agg (gArr y.at)] w fun e w' => e = .returned (.bool (u == v)) ∧ Below w.heap.size w w' :=
  same_g x y (u == v) (lt_mono hx.1 (by omega)) (lt_mono hy.1 (by omega)) (by rw [hx.2.2, hy.2.2]) w
theorem mul_el {x y : L5} {u v : Nat} (hx : El x u) (hy : El y v) (w : World) : Calls Try.prog 34 #[.agg (gArr x.at), .agg (gArr y.at)] w fun e w' => e = .returned (.agg (gArr (x.mul y).at)) ∧ Below w.heap.size w w' :=
  mul_g x y hx.1 hy.1 w

attribute [local irreducible] pw rt0 rt1

set_option maxRecDepth 100000 in
set_option maxHeartbeats 2000000 in
theorem root_any (x : L5) (u : Nat) (w : World) (hx : El x u) : Calls Try.prog 41 #[.agg (gArr x.at)] w (RetRoot u w) := by
  have HX := Lib.hid hx
  have HP := Lib.hid (fun w : World => pow_el x u 252 2 w hx (by omega) (by omega) (by omega) (by omega))
  have HP2 := Lib.hid (fun w : World => pow_el (ofL 2) 2 253 5 w el_two (by omega) (by omega) (by omega) (by omega))
  have HO2 := Lib.hid (of_g 2 (by decide))
  rw [← rt0_def] at HP
  obtain ⟨ns, hns⟩ : ∃ ns, ns = pw 2 (2 ^ 253 - 5) := ⟨_, rfl⟩
  rw [← hns] at HP2
  have HNS := Lib.hid hns
  clear hx hns
  go_enter Try.func41, Try.ntmps41
  go_upto_region 1 with fail
  have g0 : Box ((w.alloc (.cells (gArr x.at) 27)).alloc (.cells #[.int .u64 0, .int .u64 0, .int .u64 0, .int .u64 0, .int .u64 0] 27)) w.heap.size 27 (gArr x.at) := (Box.new _ _ _).alloc _
  have g1 : Box ((w.alloc (.cells (gArr x.at) 27)).alloc (.cells #[.int .u64 0, .int .u64 0, .int .u64 0, .int .u64 0, .int .u64 0] 27)) (w.heap.size + 1) 27 #[.int .u64 0, .int .u64 0, .int .u64 0, .int .u64 0, .int .u64 0] := by
    have := Box.new (w.alloc (.cells (gArr x.at) 27)) 27 #[.int .u64 0, .int .u64 0, .int .u64 0, .int .u64 0, .int .u64 0]
    simp only [World.size_alloc] at this
    exact this
  have g3 : Below w.heap.size w ((w.alloc (.cells (gArr x.at) 27)).alloc (.cells #[.int .u64 0, .int .u64 0, .int .u64 0, .int .u64 0, .int .u64 0] 27)) := ((Below.refl w.heap.size w).alloc (Nat.le_refl _) _).alloc (by simp) _
  have g4 : w.heap.size + 2 ≤ ((w.alloc (.cells (gArr x.at) 27)).alloc (.cells #[.int .u64 0, .int .u64 0, .int .u64 0, .int .u64 0, .int .u64 0] 27)).heap.size := by simp
  change Code.wp _ _ _ _ ((w.alloc (.cells (gArr x.at) 27)).alloc (.cells #[.int .u64 0, .int .u64 0, .int .u64 0, .int .u64 0, .int .u64 0] 27))
  generalize ((w.alloc (.cells (gArr x.at) 27)).alloc (.cells #[.int .u64 0, .int .u64 0, .int .u64 0, .int .u64 0, .int .u64 0] 27)) = W at *
  go_step
  refine wpList_load_box rfl 27 _ rfl g0 (by rfl) Try.underlying27 rfl (by rw [gArr_size]; kernel_rfl) ?_
  refine wpList_enterR rfl 74 #[.agg (gArr x.at), .int .i64 252, .int .u64 2] (by simp [go_sem, Act.put]) _ (HP.out W) ?_
  rintro e w1 ⟨y, rfl, hy, b1⟩
  refine ⟨_, rfl, ?_⟩
  refine wpList_alloc_box rfl 27 rfl #[.int .u64 0, .int .u64 0, .int .u64 0, .int .u64 0, .int .u64 0] (by intro w; simp [go_sem]) ?_
  refine wpList_store_box (cells := gArr y.at) rfl 27 (.tmp 4) (.tmp 6) rfl (Box.new _ _ _) (by simp [go_sem]) (by simp [go_sem, Act.put]) (by rw [gArr_size]; rfl) (by rw [gArr_size]; kernel_rfl) (gArr_one _) ?_
  intro w2 hY st
  have s1 := b1.size
  have hX := st.box ((g0.after b1).alloc _) (by omega)
  have hR := st.box ((g1.after b1).alloc _) (by omega)
  have hB := st.below w.heap.size w (by omega) ((g3.trans (b1.mono (by omega))).alloc (by omega) _)
  have hS : w1.heap.size + 1 ≤ w2.heap.size := by have := st.size; simp at this; omega
  have hHO : w.heap.size + 2 ≤ w1.heap.size := by omega
  simp only [Act.put, List.setIfInBounds_toArray, List.set_cons_zero, List.set_cons_succ]
  clear st b1 s1 g0 g1 g3 g4
  generalize w1.heap.size = O at *
  have HYY := Lib.hid (mul_el hy hy)
  have HSM := Lib.hid (same_el (el_mul hy hy) HX.out)
  obtain ⟨b, hb⟩ : ∃ b, b = (rt0 u * rt0 u % P25 == u) := ⟨_, rfl⟩
  rw [← hb] at HSM
  have HB := Lib.hid hb
  have HY := Lib.hid hy
  clear hb hy
  go_upto_region 2 with fail
  refine wp_region_made w2.heap.size w2 rfl (by kernel_rfl) (Below.refl _ _) ?_
  refine wpQ_load_box rfl 27 _ rfl hY (by rfl) hY.lt Try.underlying27 rfl (by rw [gArr_size]; kernel_rfl) ?_
  simp only [Act.put, List.setIfInBounds_toArray, List.set_cons_zero, List.set_cons_succ]
  refine wpQ_load_box rfl 27 _ rfl hY (by rfl) hY.lt Try.underlying27 rfl (by rw [gArr_size]; kernel_rfl) ?_
  simp only [Act.put, List.setIfInBounds_toArray, List.set_cons_zero, List.set_cons_succ]
  refine wpQ_call rfl 34 #[.agg (gArr y.at), .agg (gArr y.at)] (fun w => by simp [go_sem]) _ (Nat.le_refl _) HYY.out ?_
  simp only [Act.put, List.setIfInBounds_toArray, List.set_cons_zero, List.set_cons_succ]
  refine wpQ_load_box rfl 27 _ rfl hX (by rfl) hX.lt Try.underlying27 rfl (by rw [gArr_size]; kernel_rfl) ?_
  simp only [Act.put, List.setIfInBounds_toArray, List.set_cons_zero, List.set_cons_succ]
  refine wpQ_call rfl 23 #[.agg (gArr (y.mul y).at), .agg (gArr x.at)] (fun w => by simp [go_sem]) _ (Nat.le_refl _) HSM.out ?_
  simp only [Act.put, List.setIfInBounds_toArray, List.set_cons_zero, List.set_cons_succ]
  refine wpQ_run rfl (.bool (!b)) (fun w hw => by simp [go_sem]) ?_
  simp only [Act.put, List.setIfInBounds_toArray, List.set_cons_zero, List.set_cons_succ]
  intro w3 bm
  replace hX := hX.after bm
  replace hR := hR.after bm
  replace hY := hY.after bm
  replace hB := hB.trans (bm.mono (by omega))
  replace hS : O + 1 ≤ w3.heap.size := by have := bm.size; omega
  clear bm
  clear HYY HSM
  cases b with
  | true =>
    have HT : Hid (El y (rt1 u)) := Lib.hid (by unfold rt1; rw [← HB.out, cond_true]; exact HY.out)
    have HYY := Lib.hid (mul_el HT.out HT.out)
    have HSM := Lib.hid (same_el (el_mul HT.out HT.out) HX.out)
    obtain ⟨b2, hb2⟩ : ∃ b2, b2 = rtOk u := ⟨_, rfl⟩
    rw [show (rt1 u * rt1 u % P25 == u) = rtOk u from rfl, ← hb2] at HSM
    have HB2 := Lib.hid hb2
    clear hb2
    go_upto_region 4 with fail
    refine wp_region_made w3.heap.size w3 rfl (by kernel_rfl) (Below.refl _ _) ?_
    refine wpQ_load_box rfl 27 _ rfl hY (by rfl) hY.lt Try.underlying27 rfl (by rw [gArr_size]; kernel_rfl) ?_
    simp only [Act.put, List.setIfInBounds_toArray, List.set_cons_zero, List.set_cons_succ]
    refine wpQ_load_box rfl 27 _ rfl hY (by rfl) hY.lt Try.underlying27 rfl (by rw [gArr_size]; kernel_rfl) ?_
    simp only [Act.put, List.setIfInBounds_toArray, List.set_cons_zero, List.set_cons_succ]
    refine wpQ_call rfl 34 #[.agg (gArr y.at), .agg (gArr y.at)] (fun w => by simp [go_sem]) _ (Nat.le_refl _) HYY.out ?_
    simp only [Act.put, List.setIfInBounds_toArray, List.set_cons_zero, List.set_cons_succ]
    refine wpQ_load_box rfl 27 _ rfl hX (by rfl) hX.lt Try.underlying27 rfl (by rw [gArr_size]; kernel_rfl) ?_
    simp only [Act.put, List.setIfInBounds_toArray, List.set_cons_zero, List.set_cons_succ]
    refine wpQ_call rfl 23 #[.agg (gArr (y.mul y).at), .agg (gArr x.at)] (fun w => by simp [go_sem]) _ (Nat.le_refl _) HSM.out ?_
    simp only [Act.put, List.setIfInBounds_toArray, List.set_cons_zero, List.set_cons_succ]
    refine wpQ_run rfl (.bool (!b2)) (fun w hw => by simp [go_sem]) ?_
    simp only [Act.put, List.setIfInBounds_toArray, List.set_cons_zero, List.set_cons_succ]
    intro w8 bm
    replace hX := hX.after bm
    replace hR := hR.after bm
    replace hY := hY.after bm
    replace hB := hB.trans (bm.mono (by omega))
    replace hS : O + 1 ≤ w8.heap.size := by have := bm.size; omega
    clear bm
    clear HYY HSM
    cases b2 with
    | false =>
      go_upto_region 5 with fail
      go_step
      refine wpList_value rfl (.agg #[.int .u64 0, .int .u64 0, .int .u64 0, .int .u64 0, .int .u64 0]) (by simp [go_sem]) ?_
      refine wpList_store_box (cells := #[.int .u64 0, .int .u64 0, .int .u64 0, .int .u64 0, .int .u64 0]) rfl 27 (.tmp 2) (.tmp 23) rfl hR (by simp [go_sem, Act.put]) (by simp [go_sem, Act.put]) rfl (by kernel_rfl) (gArr_one L5.zero.at) ?_
      intro wz hR9 st9
      have hB9 := st9.below w.heap.size w (by omega) hB
      refine wpList_value rfl (.bool false) (by simp [go_sem]) ?_
      simp only [Act.put, List.setIfInBounds_toArray, List.set_cons_zero, List.set_cons_succ]
      clear st9 hX hR hY hB hS
      go_wp2_with fail
      exact bodyPost_ret (v := .tuple #[.agg #[.int .u64 0, .int .u64 0, .int .u64 0, .int .u64 0, .int .u64 0], .bool false]) (box_result2 (p := 2) (q := 3) rfl _ _ (by rfl) hR9 Try.underlying27 rfl (by kernel_rfl)) rfl ⟨L5.zero, by rw [← HB2.out]; rfl, by unfold rtN; rw [← HB2.out, cond_false]; exact el_zero, hB9⟩
    | true =>
      have HOK : Hid (rtOk u = true) := Lib.hid HB2.out.symm
      obtain ⟨o, ho⟩ : ∃ o, o = (rt1 u % 2 == 1) := ⟨_, rfl⟩
      have HODD : Hid (∀ w : World, Calls Try.prog 25 #[.agg (gArr y.at)] w fun e w' => e = .returned (.bool o) ∧ Below w.heap.size w w') := by
        refine Lib.hid fun w => ?_
        have := odd_any y w (lt_mono HT.out.1 (by omega))
        rw [HT.out.2.2, ← ho] at this
        exact this
      have HO := Lib.hid ho
      clear ho
      go_upto_region 6 with fail
      go_step
      refine wpList_made 2 w8.heap.size w8 (Below.refl _ _) ?_
      simp only [List.take_succ_cons, List.take_zero, List.drop_succ_cons, List.drop_zero]
      refine wpQ_load_box rfl 27 _ rfl hY (by rfl) hY.lt Try.underlying27 rfl (by rw [gArr_size]; kernel_rfl) ?_
      simp only [Act.put, List.setIfInBounds_toArray, List.set_cons_zero, List.set_cons_succ]
      refine wpQ_call rfl 25 #[.agg (gArr y.at)] (fun w => by simp [go_sem]) _ (Nat.le_refl _) HODD.out ?_
      simp only [Act.put, List.setIfInBounds_toArray, List.set_cons_zero, List.set_cons_succ]
      intro w9 bm
      replace hX := hX.after bm
      replace hR := hR.after bm
      replace hY := hY.after bm
      replace hB := hB.trans (bm.mono (by omega))
      replace hS : O + 1 ≤ w9.heap.size := by have := bm.size; omega
      clear bm HODD
      cases o with
      | false =>
        go_upto_region 8 with fail
        go_step
        refine wpList_load_box rfl 27 _ rfl hY (by simp [go_sem]) Try.underlying27 rfl (by rw [gArr_size]; kernel_rfl) ?_
        refine wpList_store_box (cells := gArr y.at) rfl 27 (.tmp 2) (.tmp 29) rfl hR (by simp [go_sem]) (by simp [go_sem, Act.put]) (by rw [gArr_size]; rfl) (by rw [gArr_size]; kernel_rfl) (gArr_one _) ?_
        intro wz hR9 st9
        have hB9 := st9.below w.heap.size w (by omega) hB
        refine wpList_value rfl (.bool true) (by simp [go_sem]) ?_
        simp only [Act.put, List.setIfInBounds_toArray, List.set_cons_zero, List.set_cons_succ]
        have HEL : Hid (El y (rtN u)) := Lib.hid (by unfold rtN; rw [HOK.out, ← HO.out, cond_true, cond_false]; exact HT.out)
        clear st9 hX hR hY hB hS
        obtain ⟨G, hG⟩ : ∃ G, G = gArr y.at := ⟨_, rfl⟩
        rw [← hG] at hR9
        have HGS := Lib.hid (show G.size = 5 by rw [hG]; exact gArr_size _)
        have HG := Lib.hid hG
        clear hG
        go_wp2_with fail
        exact bodyPost_ret (v := .tuple #[.agg G, .bool true]) (box_result2 (p := 2) (q := 3) rfl _ _ (by rfl) hR9 Try.underlying27 rfl (by rw [HGS.out]; kernel_rfl)) rfl ⟨y, by rw [HG.out, HOK.out], HEL.out, hB9⟩
      | true =>
        have HSUB := Lib.hid (sub_g L5.zero y (lt_mono el_zero.1 (by omega)) (lt_mono HT.out.1 (by omega)))
        have hz2 : El (L5.zero.sub y) (P25 - rt1 u) := by
          have h1 := el_sub el_zero HT.out
          have h2 : rt1 u % 2 = 1 := by have := HO.out; simpa using this.symm
          have h3 := HT.out.2.1
          rw [Nat.zero_add, Nat.mod_eq_of_lt (by omega)] at h1
          exact h1
        have HZ2 := Lib.hid hz2
        clear hz2
        go_upto_region 7 with fail
        go_step
        refine wpList_made 3 w9.heap.size w9 (Below.refl _ _) ?_
        simp only [List.take_succ_cons, List.take_zero, List.drop_succ_cons, List.drop_zero]
        refine wpQ_run rfl (.agg (gArr L5.zero.at)) (fun w hw => by simp [go_sem]; rfl) ?_
        simp only [Act.put, List.setIfInBounds_toArray, List.set_cons_zero, List.set_cons_succ]
        refine wpQ_load_box rfl 27 _ rfl hY (by rfl) hY.lt Try.underlying27 rfl (by rw [gArr_size]; kernel_rfl) ?_
        simp only [Act.put, List.setIfInBounds_toArray, List.set_cons_zero, List.set_cons_succ]
        refine wpQ_call rfl 35 #[.agg (gArr L5.zero.at), .agg (gArr y.at)] (fun w => by simp [go_sem]) _ (Nat.le_refl _) HSUB.out ?_
        simp only [Act.put, List.setIfInBounds_toArray, List.set_cons_zero, List.set_cons_succ]
        intro wc bm
        refine wpList_store_box (cells := gArr (L5.zero.sub y).at) rfl 27 (.tmp 4) (.tmp 28) rfl (hY.after bm) (by simp [go_sem]) (by simp [go_sem]) (by rw [gArr_size, gArr_size]) (by rw [gArr_size]; kernel_rfl) (gArr_one _) ?_
        intro wd hY9 sm
        replace hX := sm.box (hX.after bm) (by omega)
        replace hR := sm.box (hR.after bm) (by omega)
        replace hB := sm.below w.heap.size w (by omega) (hB.trans (bm.mono (by omega)))
        replace hS : O + 1 ≤ wd.heap.size := by have := sm.size; have := bm.size; omega
        simp only [Act.put]
        clear sm bm hY
        have hY := hY9
        clear hY9
        go_upto_region 8 with fail
        go_step
        refine wpList_load_box rfl 27 _ rfl hY (by simp [go_sem]) Try.underlying27 rfl (by rw [gArr_size]; kernel_rfl) ?_
        refine wpList_store_box (cells := gArr (L5.zero.sub y).at) rfl 27 (.tmp 2) (.tmp 29) rfl hR (by simp [go_sem]) (by simp [go_sem, Act.put]) (by rw [gArr_size]; rfl) (by rw [gArr_size]; kernel_rfl) (gArr_one _) ?_
        intro wz hR9 st9
        have hB9 := st9.below w.heap.size w (by omega) hB
        refine wpList_value rfl (.bool true) (by simp [go_sem]) ?_
        simp only [Act.put, List.setIfInBounds_toArray, List.set_cons_zero, List.set_cons_succ]
        have HEL : Hid (El (L5.zero.sub y) (rtN u)) := Lib.hid (by unfold rtN; rw [HOK.out, ← HO.out, cond_true, cond_true]; exact HZ2.out)
        clear st9 hX hR hY hB hS
        obtain ⟨G, hG⟩ : ∃ G, G = gArr (L5.zero.sub y).at := ⟨_, rfl⟩
        rw [← hG] at hR9
        have HGS := Lib.hid (show G.size = 5 by rw [hG]; exact gArr_size _)
        have HG := Lib.hid hG
        clear hG
        go_wp2_with fail
        exact bodyPost_ret (v := .tuple #[.agg G, .bool true]) (box_result2 (p := 2) (q := 3) rfl _ _ (by rfl) hR9 Try.underlying27 rfl (by rw [HGS.out]; kernel_rfl)) rfl ⟨(L5.zero.sub y), by rw [HG.out, HOK.out], HEL.out, hB9⟩
  | false =>
    go_upto_region 3 with fail
    go_cut [4] from 13 (fun s4 w' => s4 = Value.pointer (some ⟨O, 0, none⟩) ∧ ∃ y2 : L5, El y2 (rt1 u) ∧ Box w' O 27 (gArr y2.at) ∧ Box w' w.heap.size 27 (gArr x.at) ∧ Box w' (w.heap.size + 1) 27 #[.int .u64 0, .int .u64 0, .int .u64 0, .int .u64 0, .int .u64 0] ∧ Below w.heap.size w w' ∧ O + 1 ≤ w'.heap.size)
    case first =>
      have hq0 : Below (w.heap.size + 2) w3 w3.drew := (Below.refl _ _).drew
      refine wp_region_held_drew (S := fun w' => Below (w.heap.size + 2) w3 w') rfl hq0 (fun _ => ?_)
      refine wpH_run_or_enter 0 1 rfl rfl (by kernel_rfl) rfl rfl (.agg (gArr y.at)) (run_load_box rfl hY.drew (by simp [go_sem]) Try.underlying27 rfl (by rw [gArr_size]; kernel_rfl)) hq0 20 #[.int .u64 2] (by simp [go_sem]) _ (HO2.out _) ?_ ?_
      · refine wpH_enter 1 rfl (by kernel_rfl) rfl 20 #[.int .u64 2] (by simp [go_sem, Act.put]) _ (HO2.out _) ?_
        rintro e w4 ⟨rfl, b4⟩
        have k4 := hq0.trans (b4.mono (by simp; omega))
        have y4 := hY.drew.after b4
        refine ⟨_, rfl, k4, ?_⟩
        refine wpH_enter 2 rfl (by kernel_rfl) rfl 74 #[.agg (gArr (ofL 2).at), .int .i64 253, .int .u64 5] (by simp [go_sem, Act.put]) _ (HP2.out _) ?_
        rintro e w5 ⟨s, rfl, hs, b5⟩
        have k5 := k4.trans (b5.mono (by have := k4.size; omega))
        have y5 := y4.after b5
        refine ⟨_, rfl, k5, ?_⟩
        refine wpH_enter 3 rfl (by kernel_rfl) rfl 34 #[.agg (gArr y.at), .agg (gArr s.at)] (by simp [go_sem, Act.put]) _ (mul_el HY.out hs w5) ?_
        rintro e w6 ⟨rfl, b6⟩
        have k6 := k5.trans (b6.mono (by have := k5.size; simp at this ⊢; omega))
        refine ⟨_, rfl, k6, ?_⟩
        refine wpH_store_box (cells := gArr (y.mul s).at) 4 rfl (by kernel_rfl) rfl 27 (.tmp 4) (.tmp 16) rfl (y5.after b6) (by simp [go_sem, Act.put]) (by simp [go_sem, Act.put]) (by rw [gArr_size, gArr_size]) (by rw [gArr_size]; kernel_rfl) (gArr_one _) ?_
        intro w7 hY7 s7
        have k7 := s7.below _ _ (by omega) k6
        refine ⟨k7, ?_⟩
        refine wpAnyH_done (by kernel_rfl) ?_ _
        have fin : Value.pointer (some ⟨O, 0, none⟩) = .pointer (some ⟨O, 0, none⟩) ∧ ∃ y2 : L5, El y2 (rt1 u) ∧ Box w7 O 27 (gArr y2.at) ∧ Box w7 w.heap.size 27 (gArr x.at) ∧ Box w7 (w.heap.size + 1) 27 #[.int .u64 0, .int .u64 0, .int .u64 0, .int .u64 0, .int .u64 0] ∧ Below w.heap.size w w7 ∧ O + 1 ≤ w7.heap.size :=
          ⟨rfl, y.mul s, by have h := el_mul HY.out hs; unfold rt1; rw [← HB.out, cond_false, ← HNS.out]; exact h, hY7, hX.below k7 (by omega), hR.below k7 (by omega), hB.trans (k7.mono (by omega)), by have := k7.size; omega⟩
        simp only [Act.put, List.setIfInBounds_toArray, List.set_cons_zero, List.set_cons_succ]
        clear s7 b6 k6 k7 hX hR hY hB hS
        go_wp2_with fail
        go_meet
        case rel => exact ⟨rfl, fin.2⟩
      · rintro e w4 ⟨rfl, b4⟩
        have k4 := hq0.trans (b4.mono (by simp; omega))
        have y4 := hY.drew.after b4
        refine ⟨_, rfl, k4, ?_⟩
        refine wpH_run_or_enter 0 2 rfl rfl (by kernel_rfl) rfl rfl (.agg (gArr y.at)) (run_load_box rfl y4 (by simp [go_sem, Act.put]) Try.underlying27 rfl (by rw [gArr_size]; kernel_rfl)) k4 74 #[.agg (gArr (ofL 2).at), .int .i64 253, .int .u64 5] (by simp [go_sem, Act.put]) _ (HP2.out _) ?_ ?_
        · refine wpH_enter 2 rfl (by kernel_rfl) rfl 74 #[.agg (gArr (ofL 2).at), .int .i64 253, .int .u64 5] (by simp [go_sem, Act.put]) _ (HP2.out _) ?_
          rintro e w5 ⟨s, rfl, hs, b5⟩
          have k5 := k4.trans (b5.mono (by have := k4.size; omega))
          have y5 := y4.after b5
          refine ⟨_, rfl, k5, ?_⟩
          refine wpH_enter 3 rfl (by kernel_rfl) rfl 34 #[.agg (gArr y.at), .agg (gArr s.at)] (by simp [go_sem, Act.put]) _ (mul_el HY.out hs w5) ?_
          rintro e w6 ⟨rfl, b6⟩
          have k6 := k5.trans (b6.mono (by have := k5.size; simp at this ⊢; omega))
          refine ⟨_, rfl, k6, ?_⟩
          refine wpH_store_box (cells := gArr (y.mul s).at) 4 rfl (by kernel_rfl) rfl 27 (.tmp 4) (.tmp 16) rfl (y5.after b6) (by simp [go_sem, Act.put]) (by simp [go_sem, Act.put]) (by rw [gArr_size, gArr_size]) (by rw [gArr_size]; kernel_rfl) (gArr_one _) ?_
          intro w7 hY7 s7
          have k7 := s7.below _ _ (by omega) k6
          refine ⟨k7, ?_⟩
          refine wpAnyH_done (by kernel_rfl) ?_ _
          have fin : Value.pointer (some ⟨O, 0, none⟩) = .pointer (some ⟨O, 0, none⟩) ∧ ∃ y2 : L5, El y2 (rt1 u) ∧ Box w7 O 27 (gArr y2.at) ∧ Box w7 w.heap.size 27 (gArr x.at) ∧ Box w7 (w.heap.size + 1) 27 #[.int .u64 0, .int .u64 0, .int .u64 0, .int .u64 0, .int .u64 0] ∧ Below w.heap.size w w7 ∧ O + 1 ≤ w7.heap.size :=
            ⟨rfl, y.mul s, by have h := el_mul HY.out hs; unfold rt1; rw [← HB.out, cond_false, ← HNS.out]; exact h, hY7, hX.below k7 (by omega), hR.below k7 (by omega), hB.trans (k7.mono (by omega)), by have := k7.size; omega⟩
          simp only [Act.put, List.setIfInBounds_toArray, List.set_cons_zero, List.set_cons_succ]
          clear s7 b6 k6 k7 hX hR hY hB hS
          go_wp2_with fail
          go_meet
          case rel => exact ⟨rfl, fin.2⟩
        · rintro e w5 ⟨s, rfl, hs, b5⟩
          have k5 := k4.trans (b5.mono (by have := k4.size; omega))
          have y5 := y4.after b5
          refine ⟨_, rfl, k5, ?_⟩
          refine wpH_run 0 rfl (by kernel_rfl) rfl (.agg (gArr y.at)) w5 (run_load_box rfl y5 (by simp [go_sem, Act.put]) Try.underlying27 rfl (by rw [gArr_size]; kernel_rfl)) k5 ?_
          refine wpH_enter 3 rfl (by kernel_rfl) rfl 34 #[.agg (gArr y.at), .agg (gArr s.at)] (by simp [go_sem, Act.put]) _ (mul_el HY.out hs w5) ?_
          rintro e w6 ⟨rfl, b6⟩
          have k6 := k5.trans (b6.mono (by have := k5.size; simp at this ⊢; omega))
          refine ⟨_, rfl, k6, ?_⟩
          refine wpH_store_box (cells := gArr (y.mul s).at) 4 rfl (by kernel_rfl) rfl 27 (.tmp 4) (.tmp 16) rfl (y5.after b6) (by simp [go_sem, Act.put]) (by simp [go_sem, Act.put]) (by rw [gArr_size, gArr_size]) (by rw [gArr_size]; kernel_rfl) (gArr_one _) ?_
          intro w7 hY7 s7
          have k7 := s7.below _ _ (by omega) k6
          refine ⟨k7, ?_⟩
          refine wpAnyH_done (by kernel_rfl) ?_ _
          have fin : Value.pointer (some ⟨O, 0, none⟩) = .pointer (some ⟨O, 0, none⟩) ∧ ∃ y2 : L5, El y2 (rt1 u) ∧ Box w7 O 27 (gArr y2.at) ∧ Box w7 w.heap.size 27 (gArr x.at) ∧ Box w7 (w.heap.size + 1) 27 #[.int .u64 0, .int .u64 0, .int .u64 0, .int .u64 0, .int .u64 0] ∧ Below w.heap.size w w7 ∧ O + 1 ≤ w7.heap.size :=
            ⟨rfl, y.mul s, by have h := el_mul HY.out hs; unfold rt1; rw [← HB.out, cond_false, ← HNS.out]; exact h, hY7, hX.below k7 (by omega), hR.below k7 (by omega), hB.trans (k7.mono (by omega)), by have := k7.size; omega⟩
          simp only [Act.put, List.setIfInBounds_toArray, List.set_cons_zero, List.set_cons_succ]
          clear s7 b6 k6 k7 hX hR hY hB hS
          go_wp2_with fail
          go_meet
          case rel => exact ⟨rfl, fin.2⟩
    case rest =>
      obtain ⟨rfl, y2, hy2, hY, hX, hR, hB, hS⟩ := hcut
      have HT := Lib.hid hy2
      clear hy2
      have HYY := Lib.hid (mul_el HT.out HT.out)
      have HSM := Lib.hid (same_el (el_mul HT.out HT.out) HX.out)
      obtain ⟨b2, hb2⟩ : ∃ b2, b2 = rtOk u := ⟨_, rfl⟩
      rw [show (rt1 u * rt1 u % P25 == u) = rtOk u from rfl, ← hb2] at HSM
      have HB2 := Lib.hid hb2
      clear hb2
      go_upto_region 4 with fail
      refine wp_region_made wc.heap.size wc rfl (by kernel_rfl) (Below.refl _ _) ?_
      refine wpQ_load_box rfl 27 _ rfl hY (by rfl) hY.lt Try.underlying27 rfl (by rw [gArr_size]; kernel_rfl) ?_
      simp only [Act.put, List.setIfInBounds_toArray, List.set_cons_zero, List.set_cons_succ]
      refine wpQ_load_box rfl 27 _ rfl hY (by rfl) hY.lt Try.underlying27 rfl (by rw [gArr_size]; kernel_rfl) ?_
      simp only [Act.put, List.setIfInBounds_toArray, List.set_cons_zero, List.set_cons_succ]
      refine wpQ_call rfl 34 #[.agg (gArr y2.at), .agg (gArr y2.at)] (fun w => by simp [go_sem]) _ (Nat.le_refl _) HYY.out ?_
      simp only [Act.put, List.setIfInBounds_toArray, List.set_cons_zero, List.set_cons_succ]
      refine wpQ_load_box rfl 27 _ rfl hX (by rfl) hX.lt Try.underlying27 rfl (by rw [gArr_size]; kernel_rfl) ?_
      simp only [Act.put, List.setIfInBounds_toArray, List.set_cons_zero, List.set_cons_succ]
      refine wpQ_call rfl 23 #[.agg (gArr (y2.mul y2).at), .agg (gArr x.at)] (fun w => by simp [go_sem]) _ (Nat.le_refl _) HSM.out ?_
      simp only [Act.put, List.setIfInBounds_toArray, List.set_cons_zero, List.set_cons_succ]
      refine wpQ_run rfl (.bool (!b2)) (fun w hw => by simp [go_sem]) ?_
      simp only [Act.put, List.setIfInBounds_toArray, List.set_cons_zero, List.set_cons_succ]
      intro w8 bm
      replace hX := hX.after bm
      replace hR := hR.after bm
      replace hY := hY.after bm
      replace hB := hB.trans (bm.mono (by omega))
      replace hS : O + 1 ≤ w8.heap.size := by have := bm.size; omega
      clear bm
      clear HYY HSM
      cases b2 with
      | false =>
        go_upto_region 5 with fail
        go_step
        refine wpList_value rfl (.agg #[.int .u64 0, .int .u64 0, .int .u64 0, .int .u64 0, .int .u64 0]) (by simp [go_sem]) ?_
        refine wpList_store_box (cells := #[.int .u64 0, .int .u64 0, .int .u64 0, .int .u64 0, .int .u64 0]) rfl 27 (.tmp 2) (.tmp 23) rfl hR (by simp [go_sem, Act.put]) (by simp [go_sem, Act.put]) rfl (by kernel_rfl) (gArr_one L5.zero.at) ?_
        intro wz hR9 st9
        have hB9 := st9.below w.heap.size w (by omega) hB
        refine wpList_value rfl (.bool false) (by simp [go_sem]) ?_
        simp only [Act.put, List.setIfInBounds_toArray, List.set_cons_zero, List.set_cons_succ]
        clear st9 hX hR hY hB hS
        go_wp2_with fail
        exact bodyPost_ret (v := .tuple #[.agg #[.int .u64 0, .int .u64 0, .int .u64 0, .int .u64 0, .int .u64 0], .bool false]) (box_result2 (p := 2) (q := 3) rfl _ _ (by rfl) hR9 Try.underlying27 rfl (by kernel_rfl)) rfl ⟨L5.zero, by rw [← HB2.out]; rfl, by unfold rtN; rw [← HB2.out, cond_false]; exact el_zero, hB9⟩
      | true =>
        have HOK : Hid (rtOk u = true) := Lib.hid HB2.out.symm
        obtain ⟨o, ho⟩ : ∃ o, o = (rt1 u % 2 == 1) := ⟨_, rfl⟩
        have HODD : Hid (∀ w : World, Calls Try.prog 25 #[.agg (gArr y2.at)] w fun e w' => e = .returned (.bool o) ∧ Below w.heap.size w w') := by
          refine Lib.hid fun w => ?_
          have := odd_any y2 w (lt_mono HT.out.1 (by omega))
          rw [HT.out.2.2, ← ho] at this
          exact this
        have HO := Lib.hid ho
        clear ho
        go_upto_region 6 with fail
        go_step
        refine wpList_made 2 w8.heap.size w8 (Below.refl _ _) ?_
        simp only [List.take_succ_cons, List.take_zero, List.drop_succ_cons, List.drop_zero]
        refine wpQ_load_box rfl 27 _ rfl hY (by rfl) hY.lt Try.underlying27 rfl (by rw [gArr_size]; kernel_rfl) ?_
        simp only [Act.put, List.setIfInBounds_toArray, List.set_cons_zero, List.set_cons_succ]
        refine wpQ_call rfl 25 #[.agg (gArr y2.at)] (fun w => by simp [go_sem]) _ (Nat.le_refl _) HODD.out ?_
        simp only [Act.put, List.setIfInBounds_toArray, List.set_cons_zero, List.set_cons_succ]
        intro w9 bm
        replace hX := hX.after bm
        replace hR := hR.after bm
        replace hY := hY.after bm
        replace hB := hB.trans (bm.mono (by omega))
        replace hS : O + 1 ≤ w9.heap.size := by have := bm.size; omega
        clear bm HODD
        cases o with
        | false =>
          go_upto_region 8 with fail
          go_step
          refine wpList_load_box rfl 27 _ rfl hY (by simp [go_sem]) Try.underlying27 rfl (by rw [gArr_size]; kernel_rfl) ?_
          refine wpList_store_box (cells := gArr y2.at) rfl 27 (.tmp 2) (.tmp 29) rfl hR (by simp [go_sem]) (by simp [go_sem, Act.put]) (by rw [gArr_size]; rfl) (by rw [gArr_size]; kernel_rfl) (gArr_one _) ?_
          intro wz hR9 st9
          have hB9 := st9.below w.heap.size w (by omega) hB
          refine wpList_value rfl (.bool true) (by simp [go_sem]) ?_
          simp only [Act.put, List.setIfInBounds_toArray, List.set_cons_zero, List.set_cons_succ]
          have HEL : Hid (El y2 (rtN u)) := Lib.hid (by unfold rtN; rw [HOK.out, ← HO.out, cond_true, cond_false]; exact HT.out)
          clear st9 hX hR hY hB hS
          obtain ⟨G, hG⟩ : ∃ G, G = gArr y2.at := ⟨_, rfl⟩
          rw [← hG] at hR9
          have HGS := Lib.hid (show G.size = 5 by rw [hG]; exact gArr_size _)
          have HG := Lib.hid hG
          clear hG
          go_wp2_with fail
          exact bodyPost_ret (v := .tuple #[.agg G, .bool true]) (box_result2 (p := 2) (q := 3) rfl _ _ (by rfl) hR9 Try.underlying27 rfl (by rw [HGS.out]; kernel_rfl)) rfl ⟨y2, by rw [HG.out, HOK.out], HEL.out, hB9⟩
        | true =>
          have HSUB := Lib.hid (sub_g L5.zero y2 (lt_mono el_zero.1 (by omega)) (lt_mono HT.out.1 (by omega)))
          have hz2 : El (L5.zero.sub y2) (P25 - rt1 u) := by
            have h1 := el_sub el_zero HT.out
            have h2 : rt1 u % 2 = 1 := by have := HO.out; simpa using this.symm
            have h3 := HT.out.2.1
            rw [Nat.zero_add, Nat.mod_eq_of_lt (by omega)] at h1
            exact h1
          have HZ2 := Lib.hid hz2
          clear hz2
          go_upto_region 7 with fail
          go_step
          refine wpList_made 3 w9.heap.size w9 (Below.refl _ _) ?_
          simp only [List.take_succ_cons, List.take_zero, List.drop_succ_cons, List.drop_zero]
          refine wpQ_run rfl (.agg (gArr L5.zero.at)) (fun w hw => by simp [go_sem]; rfl) ?_
          simp only [Act.put, List.setIfInBounds_toArray, List.set_cons_zero, List.set_cons_succ]
          refine wpQ_load_box rfl 27 _ rfl hY (by rfl) hY.lt Try.underlying27 rfl (by rw [gArr_size]; kernel_rfl) ?_
          simp only [Act.put, List.setIfInBounds_toArray, List.set_cons_zero, List.set_cons_succ]
          refine wpQ_call rfl 35 #[.agg (gArr L5.zero.at), .agg (gArr y2.at)] (fun w => by simp [go_sem]) _ (Nat.le_refl _) HSUB.out ?_
          simp only [Act.put, List.setIfInBounds_toArray, List.set_cons_zero, List.set_cons_succ]
          intro wc bm
          refine wpList_store_box (cells := gArr (L5.zero.sub y2).at) rfl 27 (.tmp 4) (.tmp 28) rfl (hY.after bm) (by simp [go_sem]) (by simp [go_sem]) (by rw [gArr_size, gArr_size]) (by rw [gArr_size]; kernel_rfl) (gArr_one _) ?_
          intro wd hY9 sm
          replace hX := sm.box (hX.after bm) (by omega)
          replace hR := sm.box (hR.after bm) (by omega)
          replace hB := sm.below w.heap.size w (by omega) (hB.trans (bm.mono (by omega)))
          replace hS : O + 1 ≤ wd.heap.size := by have := sm.size; have := bm.size; omega
          simp only [Act.put]
          clear sm bm hY
          have hY := hY9
          clear hY9
          go_upto_region 8 with fail
          go_step
          refine wpList_load_box rfl 27 _ rfl hY (by simp [go_sem]) Try.underlying27 rfl (by rw [gArr_size]; kernel_rfl) ?_
          refine wpList_store_box (cells := gArr (L5.zero.sub y2).at) rfl 27 (.tmp 2) (.tmp 29) rfl hR (by simp [go_sem]) (by simp [go_sem, Act.put]) (by rw [gArr_size]; rfl) (by rw [gArr_size]; kernel_rfl) (gArr_one _) ?_
          intro wz hR9 st9
          have hB9 := st9.below w.heap.size w (by omega) hB
          refine wpList_value rfl (.bool true) (by simp [go_sem]) ?_
          simp only [Act.put, List.setIfInBounds_toArray, List.set_cons_zero, List.set_cons_succ]
          have HEL : Hid (El (L5.zero.sub y2) (rtN u)) := Lib.hid (by unfold rtN; rw [HOK.out, ← HO.out, cond_true, cond_true]; exact HZ2.out)
          clear st9 hX hR hY hB hS
          obtain ⟨G, hG⟩ : ∃ G, G = gArr (L5.zero.sub y2).at := ⟨_, rfl⟩
          rw [← hG] at hR9
          have HGS := Lib.hid (show G.size = 5 by rw [hG]; exact gArr_size _)
          have HG := Lib.hid hG
          clear hG
          go_wp2_with fail
          exact bodyPost_ret (v := .tuple #[.agg G, .bool true]) (box_result2 (p := 2) (q := 3) rfl _ _ (by rfl) hR9 Try.underlying27 rfl (by rw [HGS.out]; kernel_rfl)) rfl ⟨(L5.zero.sub y2), by rw [HG.out, HOK.out], HEL.out, hB9⟩
end Go.Proofs.Ytddgkoheihlbdaa

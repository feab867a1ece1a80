/- field: Inv, and the document's: what they compute. -/
import Derived.Test.YtddgkoheihlbdaaFldRefPow
namespace Go.Proofs.Ytddgkoheihlbdaa
open Go.RowKit

theorem wpList_enterR {P : Program} {ops : Array Oper} {rest : List Oper} {o : Oper} {a : Act} {w : World} {Q : Exit → Act → World → Prop} (hgd : Region.wanted o (yielded ops a.tmps) = true) (f : FuncId) (args : Array Value)
    (hr : (execOp a.eval o).run P w = .ok (.enter f args) w) (R : Ending → World → Prop) (hc : Calls P f args w R)
    (h : ∀ e w', R e w' → ∃ v, e = .returned v ∧ wpList P ops Q rest (a.put o.dst v) w') : wpList P ops Q (o :: rest) a w :=
  wpList_want hgd fun _ hK => by
    unfold Oper.wp
    rw [hr]
    refine hc.mono fun e w' he => ?_
    obtain ⟨v, rfl, hw⟩ := h e w' he
    exact hK _ _ hw

/-- an element comes back, that is a number's -/
def RetEl (n : Nat) (w : World) (e : Ending) (w' : World) : Prop := ∃ z : L5, e = .returned (.agg (gArr z.at)) ∧ El z n ∧ Below w.heap.size w w'

theorem pow_el (x : L5) (u n l : Nat) (w : World) (hx : El x u) (h1 : 1 ≤ l) (h2 : l < 18446744073709551616) (h3 : 64 ≤ n) (h4 : n ≤ 255) :
    Calls Try.prog 74 #[.agg (gArr x.at), .int .i64 n, .int .u64 l] w (RetEl (pw u (2 ^ n - l)) w) := power_any x u n l w hx h1 h2 h3 h4

set_option maxRecDepth 100000 in
set_option maxHeartbeats 1000000 in
theorem inv_any (x : L5) (u : Nat) (w : World) (hx : El x u) : Calls Try.prog 40 #[.agg (gArr x.at)] w (RetEl (pw u (P25 - 2)) w) := by
  have HP := Lib.hid (fun w : World => pow_el x u 255 21 w hx (by omega) (by omega) (by omega) (by omega))
  rw [show 2 ^ 255 - 21 = P25 - 2 by unfold P25; simp only [Nat.reducePow]] at HP
  clear hx
  go_enter Try.func40, Try.ntmps40
  go_upto_region 1 with fail
  have g0 : Box ((w.alloc (.cells (gArr x.at) 27)).alloc (.cells #[.int .u64 0, .int .u64 0, .int .u64 0, .int .u64 0, .int .u64 0] 27)) w.heap.size 27 (gArr x.at) := (Box.new _ _ _).alloc _
  have g1 : Box ((w.alloc (.cells (gArr x.at) 27)).alloc (.cells #[.int .u64 0, .int .u64 0, .int .u64 0, .int .u64 0, .int .u64 0] 27)) (w.heap.size + 1) 27 #[.int .u64 0, .int .u64 0, .int .u64 0, .int .u64 0, .int .u64 0] := by
    have := Box.new (w.alloc (.cells (gArr x.at) 27)) 27 #[.int .u64 0, .int .u64 0, .int .u64 0, .int .u64 0, .int .u64 0]
    simp only [World.size_alloc] at this
    exact this
  have g3 : Below w.heap.size w ((w.alloc (.cells (gArr x.at) 27)).alloc (.cells #[.int .u64 0, .int .u64 0, .int .u64 0, .int .u64 0, .int .u64 0] 27)) := ((Below.refl w.heap.size w).alloc (Nat.le_refl _) _).alloc (by simp) _
  have g4 : w.heap.size + 2 ≤ ((w.alloc (.cells (gArr x.at) 27)).alloc (.cells #[.int .u64 0, .int .u64 0, .int .u64 0, .int .u64 0, .int .u64 0] 27)).heap.size := by simp
  change Code.wp _ _ _ _ ((w.alloc (.cells (gArr x.at) 27)).alloc (.cells #[.int .u64 0, .int .u64 0, .int .u64 0, .int .u64 0, .int .u64 0] 27))
  generalize ((w.alloc (.cells (gArr x.at) 27)).alloc (.cells #[.int .u64 0, .int .u64 0, .int .u64 0, .int .u64 0, .int .u64 0] 27)) = W at *
  go_step
  refine wpList_load_box rfl 27 _ rfl g0 (by rfl) Try.underlying27 rfl (by rw [gArr_size]; kernel_rfl) ?_
  refine wpList_enterR rfl 74 #[.agg (gArr x.at), .int .i64 255, .int .u64 21] (by simp [go_sem, Act.put]) _ (HP.out W) ?_
  rintro e w1 ⟨z, rfl, hz, b1⟩
  refine ⟨_, rfl, ?_⟩
  refine wpList_store_box (cells := gArr z.at) rfl 27 _ _ rfl (g1.after b1) (by rfl) (by rfl) (by rw [gArr_size]; rfl) (by rw [gArr_size]; kernel_rfl) (gArr_one _) ?_
  intro w2 hR st
  have hB := st.below w.heap.size w (by omega) (g3.trans (b1.mono (by omega)))
  simp only [Act.put, List.setIfInBounds_toArray, List.set_cons_zero, List.set_cons_succ]
  have HZ := Lib.hid hz
  clear st b1 g0 g1 g3 g4 hz
  go_wp2_with fail
  exact bodyPost_ret (v := .agg (gArr z.at)) (box_result rfl _ _ (by rfl) hR Try.underlying27 rfl (by rw [gArr_size]; kernel_rfl)) rfl ⟨z, rfl, HZ.out, hB⟩

set_option maxRecDepth 100000 in
set_option maxHeartbeats 1000000 in
theorem refInv_any (u : Nat) (w : World) (hu : u < P25) : Calls Try.prog 43 #[.agg (fArr (dig u))] w fun e w' => e = .returned (.agg (fArr (dig (pw u (P25 - 2))))) ∧ Below w.heap.size w w' := by
  have HP := Lib.hid (fun w : World => refPower_any u 2 0 w hu (by omega) (by omega))
  rw [show (P25 - 2) / 2 ^ 0 = P25 - 2 by rw [Nat.pow_zero, Nat.div_one]] at HP
  clear hu
  go_enter Try.func43, Try.ntmps43
  go_upto_region 1 with fail
  have g0 : Box ((w.alloc (.cells (fArr (dig u)) 34)).alloc (.cells (Array.replicate 16 (Value.int .u64 0)) 34)) w.heap.size 34 (fArr (dig u)) := (Box.new _ _ _).alloc _
  have g1 : Box ((w.alloc (.cells (fArr (dig u)) 34)).alloc (.cells (Array.replicate 16 (Value.int .u64 0)) 34)) (w.heap.size + 1) 34 (Array.replicate 16 (Value.int .u64 0)) := by
    have := Box.new (w.alloc (.cells (fArr (dig u)) 34)) 34 (Array.replicate 16 (Value.int .u64 0))
    simp only [World.size_alloc] at this
    exact this
  have g3 : Below w.heap.size w ((w.alloc (.cells (fArr (dig u)) 34)).alloc (.cells (Array.replicate 16 (Value.int .u64 0)) 34)) := ((Below.refl w.heap.size w).alloc (Nat.le_refl _) _).alloc (by simp) _
  have g4 : w.heap.size + 2 ≤ ((w.alloc (.cells (fArr (dig u)) 34)).alloc (.cells (Array.replicate 16 (Value.int .u64 0)) 34)).heap.size := by simp
  change Code.wp _ _ _ _ ((w.alloc (.cells (fArr (dig u)) 34)).alloc (.cells (Array.replicate 16 (Value.int .u64 0)) 34))
  generalize ((w.alloc (.cells (fArr (dig u)) 34)).alloc (.cells (Array.replicate 16 (Value.int .u64 0)) 34)) = W at *
  go_step
  refine wpList_load_box rfl 34 _ rfl g0 (by rfl) Try.underlying34 rfl (by rw [fArr_size]; kernel_rfl) ?_
  refine wpList_enter rfl 75 #[.agg (fArr (dig u)), .int .u64 2, .int .i64 0] (by simp [go_sem, Act.put]) _ _ (HP.out W) ?_
  intro w1 b1
  refine wpList_store_box (cells := fArr (dig (pw u (P25 - 2)))) rfl 34 _ _ rfl (g1.after b1) (by rfl) (by rfl) (by rw [fArr_size]; rfl) (by rw [fArr_size]; kernel_rfl) (fArr_one _) ?_
  intro w2 hR st
  have hB := st.below w.heap.size w (by omega) (g3.trans (b1.mono (by omega)))
  simp only [Act.put, List.setIfInBounds_toArray, List.set_cons_zero, List.set_cons_succ]
  clear st b1 g0 g1 g3 g4
  obtain ⟨R, hRR⟩ : ∃ R, R = fArr (dig (pw u (P25 - 2))) := ⟨_, rfl⟩
  rw [← hRR] at hR ⊢
  have HRS := Lib.hid (show R.size = 16 by rw [hRR]; exact fArr_size _)
  have HRR := Lib.hid hRR
  clear hRR
  go_wp2_with fail
  exact bodyPost_ret (v := .agg R) (box_result rfl _ _ (by rfl) hR Try.underlying34 rfl (by rw [HRS.out]; kernel_rfl)) rfl ⟨by rw [HRR.out], hB⟩
end Go.Proofs.Ytddgkoheihlbdaa

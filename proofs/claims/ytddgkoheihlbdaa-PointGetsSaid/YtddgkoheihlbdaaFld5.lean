/- field: Same: what it computes. -/
import Derived.Test.YtddgkoheihlbdaaFld4
import Derived.Test.YtddgkoheihlbdaaFldEq
import Derived.Test.YtddgkoheihlbdaaReg
import Derived.Test.YtddgkoheihlbdaaFldMath3
namespace Go.Proofs.Ytddgkoheihlbdaa
open Go.RowKit

theorem bytes255_inj (n m : Nat) (hn : n < 2 ^ 255) (hm : m < 2 ^ 255) (k : Nat) (hk : k = 32) : decide (∀ i, i < k → byteAt n 255 i = byteAt m 255 i) = (n == m) := by
  subst hk
  rw [Bool.eq_iff_iff]
  simp only [decide_eq_true_eq, beq_iff_eq]
  constructor
  · intro h
    have := bytes_inj n m 32 fun j hj => by have := h j hj; rwa [byteAt_end _ _ hn, byteAt_end _ _ hm] at this
    rwa [Nat.mod_eq_of_lt (by omega), Nat.mod_eq_of_lt (by omega)] at this
  · rintro rfl _ _; rfl

theorem eql_bArr (n m : Nat) (hn : n < 2 ^ 255) (hm : m < 2 ^ 255) (w : World) : (Op.equalIn 10000 40 (.agg (bArr n 255)) (.agg (bArr m 255))).run Try.prog w = .ok (n == m) w := by
  rw [equal_arr w 40 5 32 9999 _ _ _ _ (by kernel_rfl) (fun a b => run_equalIn_int w 9998 _ _ .u8 a b (by kernel_rfl)) (by simp [go_sem]) (by simp [go_sem]) (fun i hi => bArr_get _ 255 i hi) (fun i hi => bArr_get _ 255 i hi), bytes255_inj n m hn hm _ rfl]

set_option maxRecDepth 100000 in
set_option maxHeartbeats 400000 in
theorem same_any (x y : L5) (w : World) (h : x.lt 9223372036854775808) (h' : y.lt 9223372036854775808) :
    Calls Try.prog 23 #[x.v, y.v] w fun e w' => e = .returned (.bool (x.val % P25 == y.val % P25)) ∧ Below w.heap.size w w' := by
  have heql := eql_bArr _ _ (red_lt x) (red_lt y)
  obtain ⟨C, hC⟩ : ∃ C, C = bArr (x.val % P25) 255 := ⟨_, rfl⟩
  obtain ⟨D, hD⟩ : ∃ D, D = bArr (y.val % P25) 255 := ⟨_, rfl⟩
  obtain ⟨r, hr⟩ : ∃ r, r = (x.val % P25 == y.val % P25) := ⟨_, rfl⟩
  rw [← hC, ← hD, ← hr] at heql
  rw [← hr]
  have HX : ∀ w, Calls Try.prog 60 #[x.v] w fun e w' => e = .returned (.agg C) ∧ Below w.heap.size w w' := by rw [hC]; exact fun w => bytes_any x w h
  have HY : ∀ w, Calls Try.prog 60 #[y.v] w fun e w' => e = .returned (.agg D) ∧ Below w.heap.size w w' := by rw [hD]; exact fun w => bytes_any y w h'
  obtain ⟨x0, x1, x2, x3, x4⟩ := x
  obtain ⟨y0, y1, y2, y3, y4⟩ := y
  have HX' := Lib.hid HX
  have HY' := Lib.hid HY
  have HE := Lib.hid heql
  clear HX HY heql hC hD hr h h'
  go_enter Try.func23, Try.ntmps23
  go_wp2_with fail
  have g0 := heap_alloc2_old w (.cells #[.int .u64 x0, .int .u64 x1, .int .u64 x2, .int .u64 x3, .int .u64 x4] 27) (.cells #[.int .u64 y0, .int .u64 y1, .int .u64 y2, .int .u64 y3, .int .u64 y4] 27)
  have g1 := heap_alloc2_new w (.cells #[.int .u64 x0, .int .u64 x1, .int .u64 x2, .int .u64 x3, .int .u64 x4] 27) (.cells #[.int .u64 y0, .int .u64 y1, .int .u64 y2, .int .u64 y3, .int .u64 y4] 27)
  have g2 : Below w.heap.size w ((w.alloc (.cells #[.int .u64 x0, .int .u64 x1, .int .u64 x2, .int .u64 x3, .int .u64 x4] 27)).alloc (.cells #[.int .u64 y0, .int .u64 y1, .int .u64 y2, .int .u64 y3, .int .u64 y4] 27)) :=
    ((Below.refl w.heap.size w).alloc (Nat.le_refl _) _).alloc (by simp) _
  have g3 : w.heap.size + 2 ≤ ((w.alloc (.cells #[.int .u64 x0, .int .u64 x1, .int .u64 x2, .int .u64 x3, .int .u64 x4] 27)).alloc (.cells #[.int .u64 y0, .int .u64 y1, .int .u64 y2, .int .u64 y3, .int .u64 y4] 27)).heap.size := by simp
  generalize ((w.alloc (.cells #[.int .u64 x0, .int .u64 x1, .int .u64 x2, .int .u64 x3, .int .u64 x4] 27)).alloc (.cells #[.int .u64 y0, .int .u64 y1, .int .u64 y2, .int .u64 y3, .int .u64 y4] 27)) = W at *
  refine wp_region_made W.heap.size W rfl (by kernel_rfl) (Below.refl _ _) ?_
  refine wpQ_load_row rfl 27 _ rfl _ (by rfl) _ _ _ _ g0 (by omega) Try.underlying27 rfl (by kernel_rfl) ?_
  refine wpQ_call rfl 60 _ (fun w => by simp [go_sem, Act.put]) _ (Nat.le_refl _) HX'.out ?_
  refine wpQ_load_row rfl 27 _ rfl _ (by rfl) _ _ _ _ g1 (by omega) Try.underlying27 rfl (by kernel_rfl) ?_
  refine wpQ_call rfl 60 _ (fun w => by simp [go_sem, Act.put]) _ (Nat.le_refl _) HY'.out ?_
  refine wpQ_run rfl (.bool r) (fun w _ => by simp [go_sem, HE.out, Act.put]) ?_
  refine wpQ_move rfl _ (.inl rfl) ?_
  intro w' hb
  simp only [Act.put, List.setIfInBounds_toArray, List.set_cons_zero, List.set_cons_succ]
  have g4 := g2.trans (hb.mono (by omega))
  clear g0 g1 g2 g3 hb HX' HY' HE
  go_wp2_with fail
  go_ret
  exact ⟨rfl, g4⟩
end Go.Proofs.Ytddgkoheihlbdaa

/- field: FieldNumbers: small numbers' sums, differences and products are these numbers': the walk. -/
import Derived.Test.YtddgkoheihlbdaaFldGets
import Derived.Test.YtddgkoheihlbdaaFld8
import Derived.Test.YtddgkoheihlbdaaFldMul
import Derived.Test.YtddgkoheihlbdaaReg2
namespace Go.Proofs.Ytddgkoheihlbdaa
open Go.RowKit

/-- a number's element -/
def ofL (n : Nat) : L5 := ⟨low n, car n, 0, 0, 0⟩
theorem ofL_val (n : Nat) : (ofL n).val = n := by
  have := car_low n
  simp only [ofL, L5.val]; omega
theorem ofL_lt (n : Nat) (h : n < 18446744073709551616) : (ofL n).lt 2251799813685248 := by
  have := low_lt n
  have : car n < 8192 := by unfold car; omega
  exact ⟨by simp only [ofL]; omega, by simp only [ofL]; omega, by simp only [ofL]; omega, by simp only [ofL]; omega, by simp only [ofL]; omega⟩
theorem lt_mono {x : L5} {m n : Nat} (h : x.lt m) (hmn : m ≤ n) : x.lt n := by
  obtain ⟨h1, h2, h3, h4, h5⟩ := h
  exact ⟨by omega, by omega, by omega, by omega, by omega⟩
theorem mul_mod (x y : L5) : (x.mul y).val % P25 = x.val * y.val % P25 := by
  obtain ⟨K, hK⟩ := mul_val x y
  rw [← hK, Nat.add_mul_mod_self_left, Nat.add_mul_mod_self_left]
  exact cry_mod _

/-- the contracts, spelt with the cells -/
theorem of_g (n : Nat) (hn : n < 18446744073709551616) (w : World) : Calls Try.prog 20 #[.int .u64 n] w fun e w' => e = .returned (.agg (gArr (ofL n).at)) ∧ Below w.heap.size w w' := of_any n w hn
theorem add_g (x y : L5) (hx : x.lt 4611686018427387904) (hy : y.lt 4611686018427387904) (w : World) : Calls Try.prog 33 #[.agg (gArr x.at), .agg (gArr y.at)] w fun e w' => e = .returned (.agg (gArr (x.add y).at)) ∧ Below w.heap.size w w' := add_any x y w hx hy
theorem sub_g (x y : L5) (hx : x.lt 4611686018427387904) (hy : y.lt 4611686018427387904) (w : World) : Calls Try.prog 35 #[.agg (gArr x.at), .agg (gArr y.at)] w fun e w' => e = .returned (.agg (gArr (x.sub y).at)) ∧ Below w.heap.size w w' := sub_any x y w hx (lt_mono hy (by omega))
theorem mul_g (x y : L5) (hx : x.lt 4503599627370496) (hy : y.lt 4503599627370496) (w : World) : Calls Try.prog 34 #[.agg (gArr x.at), .agg (gArr y.at)] w fun e w' => e = .returned (.agg (gArr (x.mul y).at)) ∧ Below w.heap.size w w' := mul_any x y w (at_lt hx) (at_lt hy)
theorem same_g (x y : L5) (b : Bool) (hx : x.lt 4611686018427387904) (hy : y.lt 4611686018427387904) (hb : (x.val % P25 == y.val % P25) = b) (w : World) : Calls Try.prog 23 #[.agg (gArr x.at), .agg (gArr y.at)] w fun e w' => e = .returned (.bool b) ∧ Below w.heap.size w w' := by
  have := same_any x y w (lt_mono hx (by omega)) (lt_mono hy (by omega))
  rw [hb] at this
  exact this
theorem gz : gArr L5.zero.at = #[.int .u64 0, .int .u64 0, .int .u64 0, .int .u64 0, .int .u64 0] := rfl

set_option maxRecDepth 100000 in
set_option maxHeartbeats 4000000 in
theorem FieldNumbers_walk (a0 a1 : Int) (w0 : (Lit.int .u32 a0).wf = true) (w1 : (Lit.int .u32 a1).wf = true) (w : World) :
    Calls Try.prog 8 #[.int .u32 a0, .int .u32 a1] w fun e w' => e = .returned (.bool true) ∧ Below w.heap.size w w' := by
  obtain ⟨a, rfl, ha⟩ : ∃ n : Nat, a0 = n ∧ n < 4294967296 := by
    simp [Lit.wf, IntKind.min, IntKind.max, IntKind.bits, IntKind.signed] at w0
    exact ⟨a0.toNat, by omega, by omega⟩
  obtain ⟨b, rfl, hb⟩ : ∃ n : Nat, a1 = n ∧ n < 4294967296 := by
    simp [Lit.wf, IntKind.min, IntKind.max, IntKind.bits, IntKind.signed] at w1
    exact ⟨a1.toNat, by omega, by omega⟩
  clear w0 w1
  have hab : a * b < 18446744073709551616 := by
    have : a * b ≤ 4294967295 * 4294967295 := Nat.mul_le_mul (by omega) (by omega)
    omega
  have la := ofL_lt a (by omega)
  have lb := ofL_lt b (by omega)
  have ta : (ofL a).lt 4503599627370496 := lt_mono la (by omega)
  have tb : (ofL b).lt 4503599627370496 := lt_mono lb (by omega)
  have ua : (ofL a).lt 4611686018427387904 := lt_mono la (by omega)
  have ub : (ofL b).lt 4611686018427387904 := lt_mono lb (by omega)
  have HA := Lib.hid (of_g a (by omega))
  have HB := Lib.hid (of_g b (by omega))
  have HS := Lib.hid (of_g (a + b) (by omega))
  have HM := Lib.hid (of_g (a * b) hab)
  have HADD := Lib.hid (add_g _ _ ua ub)
  have HMUL := Lib.hid (mul_g _ _ ta tb)
  have HSUB := Lib.hid (sub_g _ _ ua ub)
  have us : (ofL (a + b)).lt 4611686018427387904 := lt_mono (ofL_lt (a + b) (by omega)) (by omega)
  have um : (ofL (a * b)).lt 4611686018427387904 := lt_mono (ofL_lt (a * b) hab) (by omega)
  have uz : L5.zero.lt 4611686018427387904 := ⟨by decide, by decide, by decide, by decide, by decide⟩
  have HS1 := Lib.hid (same_g ((ofL a).add (ofL b)) (ofL (a + b)) true (lt_mono (add_tight ua ub) (by omega)) us (by rw [add_mod, ofL_val, ofL_val, ofL_val]; simp))
  have hmt : ((ofL a).mul (ofL b)).tight := cry_tight _ (mulO_lt (allV_le (at_lt ta) (at_lt tb) 5 (Nat.le_refl _)))
  have HS2 := Lib.hid (same_g ((ofL a).mul (ofL b)) (ofL (a * b)) true (lt_mono hmt (by omega)) um (by rw [mul_mod, ofL_val, ofL_val, ofL_val]; simp))
  have zt := sub_tight (y := ofL b) ua
  have zm := sub_mod (x := ofL a) (y := ofL b) (lt_mono lb (by omega))
  rw [ofL_val, ofL_val] at zm
  have HAW := Lib.hid awakeF_any
  obtain ⟨Z, hZ⟩ : ∃ Z, Z = (ofL a).sub (ofL b) := ⟨_, rfl⟩
  rw [← hZ] at zt zm HSUB
  clear hZ
  have uZ : Z.lt 4611686018427387904 := lt_mono zt (by omega)
  have hcase : (b ≤ a → Hid (∀ w : World, Calls Try.prog 23 #[.agg (gArr Z.at), .agg (gArr (ofL (a - b)).at)] w fun e w' => e = .returned (.bool true) ∧ Below w.heap.size w w')) ∧
      (¬ b ≤ a → Hid (∀ w : World, Calls Try.prog 33 #[.agg (gArr Z.at), .agg (gArr (ofL (b - a)).at)] w fun e w' => e = .returned (.agg (gArr (Z.add (ofL (b - a))).at)) ∧ Below w.heap.size w w') ∧
        Hid (∀ w : World, Calls Try.prog 23 #[.agg (gArr (Z.add (ofL (b - a))).at), .agg #[.int .u64 0, .int .u64 0, .int .u64 0, .int .u64 0, .int .u64 0]] w fun e w' => e = .returned (.bool true) ∧ Below w.heap.size w w')) := by
    refine ⟨fun h => Lib.hid (same_g Z (ofL (a - b)) true uZ (lt_mono (ofL_lt _ (by omega)) (by omega)) ?_), fun h => ?_⟩
    · rw [ofL_val]
      simp only [beq_iff_eq]
      have : (Z.val + b) % P25 = (a - b + b) % P25 := by rw [zm]; congr 1; omega
      unfold P25 at this ⊢
      omega
    · have uc : (ofL (b - a)).lt 4611686018427387904 := lt_mono (ofL_lt _ (by omega)) (by omega)
      refine ⟨Lib.hid (add_g _ _ uZ uc), ?_⟩
      rw [← gz]
      refine Lib.hid (same_g _ _ true (lt_mono (add_tight uZ uc) (by omega)) uz ?_)
      rw [add_mod, ofL_val]
      simp only [beq_iff_eq]
      have hz0 : L5.zero.val = 0 := rfl
      rw [hz0]
      have h1 : (Z.val + b) % P25 = a % P25 := zm
      unfold P25 at h1 ⊢
      omega
  have e1 : IntKind.u64.wrap (a : Int) = (a : Int) := by rw [IntKind.wrap_u64]; omega
  have e2 : IntKind.u64.wrap (b : Int) = (b : Int) := by rw [IntKind.wrap_u64]; omega
  have e3 : IntKind.u64.wrap ((a : Int) + (b : Int)) = ((a + b : Nat) : Int) := by rw [IntKind.wrap_u64]; omega
  have e4 : IntKind.u64.wrap ((a : Int) * (b : Int)) = ((a * b : Nat) : Int) := by rw [IntKind.wrap_u64, show (a : Int) * (b : Int) = ((a * b : Nat) : Int) by simp]; omega
  have hgA := Lib.hid (gArr_one (ofL a).at)
  have hgB := Lib.hid (gArr_one (ofL b).at)
  have hgZ := Lib.hid (gArr_one Z.at)
  have hsA := Lib.hid (gArr_size (ofL a).at)
  have hsB := Lib.hid (gArr_size (ofL b).at)
  have hsZ := Lib.hid (gArr_size Z.at)
  clear la lb ta tb ua ub us um uz hmt zt zm uZ
  obtain ⟨s, hs⟩ : ∃ s, s = a + b := ⟨_, rfl⟩
  obtain ⟨m, hm⟩ : ∃ m, m = a * b := ⟨_, rfl⟩
  rw [← hs] at HS HS1 e3
  rw [← hm] at HM HS2 e4
  have HCASE := Lib.hid hcase
  clear hs hm hab hcase
  generalize gArr ((ofL a).add (ofL b)).at = AB at *
  generalize gArr ((ofL a).mul (ofL b)).at = MB at *
  generalize gArr (ofL s).at = SV at *
  generalize gArr (ofL m).at = MV at *
  generalize gArr Z.at = ZV at *
  obtain ⟨A, hA⟩ : ∃ A, A = gArr (ofL a).at := ⟨_, rfl⟩
  obtain ⟨B, hB⟩ : ∃ B, B = gArr (ofL b).at := ⟨_, rfl⟩
  rw [← hA] at HA HADD HMUL HSUB hgA hsA
  rw [← hB] at HB HADD HMUL HSUB hgB hsB
  clear hA hB
  go_enter Try.func8, Try.ntmps8
  go_upto_region 1 with fail
  go_step
  refine wpList_made 6 w.heap.size w (Below.refl _ _) ?_
  simp only [List.take_succ_cons, List.take_zero, List.drop_succ_cons, List.drop_zero]
  refine wpQ_run rfl (.int .u32 a) (fun w hw => by simp [go_sem]) ?_
  simp only [Act.put, List.setIfInBounds_toArray, List.set_cons_zero, List.set_cons_succ]
  refine wpQ_run rfl (.int .u64 a) (fun w hw => by simp [go_sem, e1]) ?_
  simp only [Act.put, List.setIfInBounds_toArray, List.set_cons_zero, List.set_cons_succ]
  refine wpQ_call rfl 20 #[.int .u64 a] (fun w => by simp [go_sem]) _ (Nat.le_refl _) HA.out ?_
  simp only [Act.put, List.setIfInBounds_toArray, List.set_cons_zero, List.set_cons_succ]
  refine wpQ_run rfl (.int .u32 b) (fun w hw => by simp [go_sem]) ?_
  simp only [Act.put, List.setIfInBounds_toArray, List.set_cons_zero, List.set_cons_succ]
  refine wpQ_run rfl (.int .u64 b) (fun w hw => by simp [go_sem, e2]) ?_
  simp only [Act.put, List.setIfInBounds_toArray, List.set_cons_zero, List.set_cons_succ]
  refine wpQ_call rfl 20 #[.int .u64 b] (fun w => by simp [go_sem]) _ (Nat.le_refl _) HB.out ?_
  simp only [Act.put, List.setIfInBounds_toArray, List.set_cons_zero, List.set_cons_succ]
  intro w1 hb1
  refine wpList_alloc_box rfl 27 rfl #[.int .u64 0, .int .u64 0, .int .u64 0, .int .u64 0, .int .u64 0] (by intro w; simp [go_sem]) ?_
  refine wpList_alloc_box rfl 27 rfl #[.int .u64 0, .int .u64 0, .int .u64 0, .int .u64 0, .int .u64 0] (by intro w; simp [go_sem]) ?_
  simp only [Act.put, List.setIfInBounds_toArray, List.set_cons_zero, List.set_cons_succ]
  have q0 := (Box.new w1 27 #[.int .u64 0, .int .u64 0, .int .u64 0, .int .u64 0, .int .u64 0]).alloc (.cells #[.int .u64 0, .int .u64 0, .int .u64 0, .int .u64 0, .int .u64 0] 27)
  have q1 := Box.new (w1.alloc (.cells #[.int .u64 0, .int .u64 0, .int .u64 0, .int .u64 0, .int .u64 0] 27)) 27 #[.int .u64 0, .int .u64 0, .int .u64 0, .int .u64 0, .int .u64 0]
  have q2 := (hb1.alloc hb1.size (.cells #[.int .u64 0, .int .u64 0, .int .u64 0, .int .u64 0, .int .u64 0] 27)).alloc (by have := hb1.size; simp; omega) (.cells #[.int .u64 0, .int .u64 0, .int .u64 0, .int .u64 0, .int .u64 0] 27)
  have q3 : ((w1.alloc (.cells #[.int .u64 0, .int .u64 0, .int .u64 0, .int .u64 0, .int .u64 0] 27)).alloc (.cells #[.int .u64 0, .int .u64 0, .int .u64 0, .int .u64 0, .int .u64 0] 27)).heap.size = w1.heap.size + 2 := by simp
  have q4 : (w1.alloc (.cells #[.int .u64 0, .int .u64 0, .int .u64 0, .int .u64 0, .int .u64 0] 27)).heap.size = w1.heap.size + 1 := by simp
  rw [q4] at q1 ⊢
  have q5 := hb1.size
  clear hb1
  generalize ((w1.alloc (.cells #[.int .u64 0, .int .u64 0, .int .u64 0, .int .u64 0, .int .u64 0] 27)).alloc (.cells #[.int .u64 0, .int .u64 0, .int .u64 0, .int .u64 0, .int .u64 0] 27)) = w2 at *
  generalize w1.heap.size = O at *
  refine wpList_store_box (cells := A) rfl 27 (.tmp 5) (.tmp 10) rfl q0 (by simp [go_sem]) (by simp [go_sem]) (by rw [hsA.out]; rfl) (by rw [hsA.out]; kernel_rfl) hgA.out ?_
  intro w3 hA3 st3
  refine wpList_store_box (cells := B) rfl 27 (.tmp 6) (.tmp 13) rfl (st3.box q1 (by omega)) (by simp [go_sem, Act.put]) (by simp [go_sem, Act.put]) (by rw [hsB.out]; rfl) (by rw [hsB.out]; kernel_rfl) hgB.out ?_
  intro w4 hB4 st4
  have hA4 := st4.box hA3 (by omega)
  have hW4 := st4.below _ _ (by omega) (st3.below _ _ (by omega) q2)
  have hS4 : w4.heap.size = O + 2 := by rw [st4.size, st3.size, q3]
  clear st3 st4 q0 q1 q2 q3 hA3
  simp only [Act.put]
  go_upto_region 2 with fail
  go_step
  refine wpList_made 24 w4.heap.size w4 (Below.refl _ _) ?_
  simp only [List.take_succ_cons, List.take_zero, List.drop_succ_cons, List.drop_zero]
  refine wpQ_load_box rfl 27 _ rfl hA4 (by rfl) (by omega) Try.underlying27 rfl (by rw [hsA.out]; kernel_rfl) ?_
  simp only [Act.put, List.setIfInBounds_toArray, List.set_cons_zero, List.set_cons_succ]
  refine wpQ_load_box rfl 27 _ rfl hB4 (by rfl) (by omega) Try.underlying27 rfl (by rw [hsB.out]; kernel_rfl) ?_
  simp only [Act.put, List.setIfInBounds_toArray, List.set_cons_zero, List.set_cons_succ]
  refine wpQ_call rfl 33 #[.agg A, .agg B] (fun w => by simp [go_sem]) _ (Nat.le_refl _) HADD.out ?_
  simp only [Act.put, List.setIfInBounds_toArray, List.set_cons_zero, List.set_cons_succ]
  refine wpQ_run rfl (.int .u32 a) (fun w hw => by simp [go_sem]) ?_
  simp only [Act.put, List.setIfInBounds_toArray, List.set_cons_zero, List.set_cons_succ]
  refine wpQ_run rfl (.int .u64 a) (fun w hw => by simp [go_sem, e1]) ?_
  simp only [Act.put, List.setIfInBounds_toArray, List.set_cons_zero, List.set_cons_succ]
  refine wpQ_run rfl (.int .u32 b) (fun w hw => by simp [go_sem]) ?_
  simp only [Act.put, List.setIfInBounds_toArray, List.set_cons_zero, List.set_cons_succ]
  refine wpQ_run rfl (.int .u64 b) (fun w hw => by simp [go_sem, e2]) ?_
  simp only [Act.put, List.setIfInBounds_toArray, List.set_cons_zero, List.set_cons_succ]
  refine wpQ_run rfl (.int .u64 s) (fun w hw => by simp [go_sem, e3]) ?_
  simp only [Act.put, List.setIfInBounds_toArray, List.set_cons_zero, List.set_cons_succ]
  refine wpQ_call rfl 20 #[.int .u64 s] (fun w => by simp [go_sem]) _ (Nat.le_refl _) HS.out ?_
  simp only [Act.put, List.setIfInBounds_toArray, List.set_cons_zero, List.set_cons_succ]
  refine wpQ_call rfl 23 #[.agg AB, .agg SV] (fun w => by simp [go_sem]) _ (Nat.le_refl _) HS1.out ?_
  simp only [Act.put, List.setIfInBounds_toArray, List.set_cons_zero, List.set_cons_succ]
  refine wpQ_run rfl (.bool false) (fun w hw => by simp [go_sem]) ?_
  simp only [Act.put, List.setIfInBounds_toArray, List.set_cons_zero, List.set_cons_succ]
  refine wpQ_run rfl (.bool false) (fun w hw => by simp [go_sem]) ?_
  simp only [Act.put, List.setIfInBounds_toArray, List.set_cons_zero, List.set_cons_succ]
  refine wpQ_load_box rfl 27 _ rfl hA4 (by rfl) (by omega) Try.underlying27 rfl (by rw [hsA.out]; kernel_rfl) ?_
  simp only [Act.put, List.setIfInBounds_toArray, List.set_cons_zero, List.set_cons_succ]
  refine wpQ_load_box rfl 27 _ rfl hB4 (by rfl) (by omega) Try.underlying27 rfl (by rw [hsB.out]; kernel_rfl) ?_
  simp only [Act.put, List.setIfInBounds_toArray, List.set_cons_zero, List.set_cons_succ]
  refine wpQ_call rfl 34 #[.agg A, .agg B] (fun w => by simp [go_sem]) _ (Nat.le_refl _) HMUL.out ?_
  simp only [Act.put, List.setIfInBounds_toArray, List.set_cons_zero, List.set_cons_succ]
  refine wpQ_run rfl (.int .u32 a) (fun w hw => by simp [go_sem]) ?_
  simp only [Act.put, List.setIfInBounds_toArray, List.set_cons_zero, List.set_cons_succ]
  refine wpQ_run rfl (.int .u64 a) (fun w hw => by simp [go_sem, e1]) ?_
  simp only [Act.put, List.setIfInBounds_toArray, List.set_cons_zero, List.set_cons_succ]
  refine wpQ_run rfl (.int .u32 b) (fun w hw => by simp [go_sem]) ?_
  simp only [Act.put, List.setIfInBounds_toArray, List.set_cons_zero, List.set_cons_succ]
  refine wpQ_run rfl (.int .u64 b) (fun w hw => by simp [go_sem, e2]) ?_
  simp only [Act.put, List.setIfInBounds_toArray, List.set_cons_zero, List.set_cons_succ]
  refine wpQ_run rfl (.int .u64 m) (fun w hw => by simp [go_sem, e4]) ?_
  simp only [Act.put, List.setIfInBounds_toArray, List.set_cons_zero, List.set_cons_succ]
  refine wpQ_call rfl 20 #[.int .u64 m] (fun w => by simp [go_sem]) _ (Nat.le_refl _) HM.out ?_
  simp only [Act.put, List.setIfInBounds_toArray, List.set_cons_zero, List.set_cons_succ]
  refine wpQ_call rfl 23 #[.agg MB, .agg MV] (fun w => by simp [go_sem]) _ (Nat.le_refl _) HS2.out ?_
  simp only [Act.put, List.setIfInBounds_toArray, List.set_cons_zero, List.set_cons_succ]
  refine wpQ_run rfl (.bool false) (fun w hw => by simp [go_sem]) ?_
  simp only [Act.put, List.setIfInBounds_toArray, List.set_cons_zero, List.set_cons_succ]
  refine wpQ_run rfl (.bool false) (fun w hw => by simp [go_sem]) ?_
  simp only [Act.put, List.setIfInBounds_toArray, List.set_cons_zero, List.set_cons_succ]
  intro w5 hb5
  have hA5 := hA4.after hb5
  have hB5 := hB4.after hb5
  have hW5 := hW4.trans (hb5.mono (by omega))
  have hS5 := hb5.size
  clear hA4 hB4 hW4 hb5
  go_upto_region 4 with fail
  go_step
  refine wpList_made 3 w5.heap.size w5 (Below.refl _ _) ?_
  simp only [List.take_succ_cons, List.take_zero, List.drop_succ_cons, List.drop_zero]
  refine wpQ_load_box rfl 27 _ rfl hA5 (by rfl) (by omega) Try.underlying27 rfl (by rw [hsA.out]; kernel_rfl) ?_
  simp only [Act.put, List.setIfInBounds_toArray, List.set_cons_zero, List.set_cons_succ]
  refine wpQ_load_box rfl 27 _ rfl hB5 (by rfl) (by omega) Try.underlying27 rfl (by rw [hsB.out]; kernel_rfl) ?_
  simp only [Act.put, List.setIfInBounds_toArray, List.set_cons_zero, List.set_cons_succ]
  refine wpQ_call rfl 35 #[.agg A, .agg B] (fun w => by simp [go_sem]) _ (Nat.le_refl _) HSUB.out ?_
  simp only [Act.put, List.setIfInBounds_toArray, List.set_cons_zero, List.set_cons_succ]
  intro w6 hb6
  refine wpList_alloc_box rfl 27 rfl #[.int .u64 0, .int .u64 0, .int .u64 0, .int .u64 0, .int .u64 0] (by intro w; simp [go_sem]) ?_
  refine wpList_store_box (cells := ZV) rfl 27 (.tmp 7) (.tmp 40) rfl (Box.new _ _ _) (by simp [go_sem, Act.put]) (by simp [go_sem, Act.put]) (by rw [hsZ.out]; rfl) (by rw [hsZ.out]; kernel_rfl) hgZ.out ?_
  intro w7 hZ7 st7
  have hW7 := st7.below w.heap.size w (by have := hb6.size; omega) ((hW5.trans (hb6.mono (by omega))).alloc (by have := hb6.size; omega) _)
  have hS7 : w7.heap.size = w6.heap.size + 1 := by rw [st7.size]; simp
  have hS6 : w.heap.size ≤ w6.heap.size := by have := hb6.size; omega
  clear st7 hb6 hA5 hB5 hW5 hS5
  simp only [Act.put, List.setIfInBounds_toArray, List.set_cons_zero, List.set_cons_succ]
  generalize w6.heap.size = O6 at *
  by_cases hle : b ≤ a
  · have HSM := HCASE.out.1 hle
    have HOF := Lib.hid (of_g (a - b) (by omega))
    generalize gArr (ofL (a - b)).at = DV at *
    obtain ⟨d, hd⟩ : ∃ d, d = a - b := ⟨_, rfl⟩
    rw [← hd] at HOF
    have e5 : (a : Int) - (b : Int) = (d : Int) := by omega
    have e6 : IntKind.u64.wrap (d : Int) = (d : Int) := by rw [IntKind.wrap_u64]; omega
    have e7 : IntKind.u32.wrap (d : Int) = (d : Int) := by rw [IntKind.wrap_u32]; omega
    have hle' : (b : Int) ≤ (a : Int) := by omega
    clear hd
    go_upto_region 6 with fail
    refine wp_region_made w7.heap.size w7 rfl (by kernel_rfl) (Below.refl _ _) ?_
    refine wpQ_load_box rfl 27 _ rfl hZ7 (by rfl) (by omega) Try.underlying27 rfl (by rw [hsZ.out]; kernel_rfl) ?_
    simp only [Act.put, List.setIfInBounds_toArray, List.set_cons_zero, List.set_cons_succ]
    refine wpQ_run rfl (.int .u32 a) (fun w hw => by simp [go_sem]) ?_
    simp only [Act.put, List.setIfInBounds_toArray, List.set_cons_zero, List.set_cons_succ]
    refine wpQ_run rfl (.int .u32 b) (fun w hw => by simp [go_sem]) ?_
    simp only [Act.put, List.setIfInBounds_toArray, List.set_cons_zero, List.set_cons_succ]
    refine wpQ_run rfl (.int .u32 d) (fun w hw => by simp [go_sem, e5, e7]) ?_
    simp only [Act.put, List.setIfInBounds_toArray, List.set_cons_zero, List.set_cons_succ]
    refine wpQ_run rfl (.int .u64 d) (fun w hw => by simp [go_sem, e6]) ?_
    simp only [Act.put, List.setIfInBounds_toArray, List.set_cons_zero, List.set_cons_succ]
    refine wpQ_call rfl 20 #[.int .u64 d] (fun w => by simp [go_sem]) _ (Nat.le_refl _) HOF.out ?_
    simp only [Act.put, List.setIfInBounds_toArray, List.set_cons_zero, List.set_cons_succ]
    refine wpQ_call rfl 23 #[.agg ZV, .agg DV] (fun w => by simp [go_sem]) _ (Nat.le_refl _) HSM.out ?_
    simp only [Act.put, List.setIfInBounds_toArray, List.set_cons_zero, List.set_cons_succ]
    refine wpQ_run rfl (.bool true) (fun w hw => by simp [go_sem]) ?_
    simp only [Act.put, List.setIfInBounds_toArray, List.set_cons_zero, List.set_cons_succ]
    refine wpQ_call rfl 18 #[] (fun w => by simp [go_sem]) _ (Nat.le_refl _) HAW.out ?_
    simp only [Act.put, List.setIfInBounds_toArray, List.set_cons_zero, List.set_cons_succ]
    refine wpQ_run rfl (.bool true) (fun w hw => by simp [go_sem]) ?_
    simp only [Act.put, List.setIfInBounds_toArray, List.set_cons_zero, List.set_cons_succ]
    refine wpQ_run rfl (.bool true) (fun w hw => by simp [go_sem]) ?_
    simp only [Act.put, List.setIfInBounds_toArray, List.set_cons_zero, List.set_cons_succ]
    intro w8 hb8
    have hW8 := hW7.trans (hb8.mono (by omega))
    clear hb8 hZ7 hW7
    go_wp2_with fail
    go_ret
    exact ⟨rfl, hW8⟩
  · have HAD := (HCASE.out.2 hle).1
    have HSM := (HCASE.out.2 hle).2
    have HOF := Lib.hid (of_g (b - a) (by omega))
    generalize gArr (Z.add (ofL (b - a))).at = TV at *
    generalize gArr (ofL (b - a)).at = DV at *
    obtain ⟨d, hd⟩ : ∃ d, d = b - a := ⟨_, rfl⟩
    rw [← hd] at HOF
    have e5 : (b : Int) - (a : Int) = (d : Int) := by omega
    have e6 : IntKind.u64.wrap (d : Int) = (d : Int) := by rw [IntKind.wrap_u64]; omega
    have e7 : IntKind.u32.wrap (d : Int) = (d : Int) := by rw [IntKind.wrap_u32]; omega
    have hle' : ¬ (b : Int) ≤ (a : Int) := by omega
    clear hd
    go_upto_region 7 with fail
    refine wp_region_made w7.heap.size w7 rfl (by kernel_rfl) (Below.refl _ _) ?_
    refine wpQ_load_box rfl 27 _ rfl hZ7 (by rfl) (by omega) Try.underlying27 rfl (by rw [hsZ.out]; kernel_rfl) ?_
    simp only [Act.put, List.setIfInBounds_toArray, List.set_cons_zero, List.set_cons_succ]
    refine wpQ_run rfl (.int .u32 b) (fun w hw => by simp [go_sem]) ?_
    simp only [Act.put, List.setIfInBounds_toArray, List.set_cons_zero, List.set_cons_succ]
    refine wpQ_run rfl (.int .u32 a) (fun w hw => by simp [go_sem]) ?_
    simp only [Act.put, List.setIfInBounds_toArray, List.set_cons_zero, List.set_cons_succ]
    refine wpQ_run rfl (.int .u32 d) (fun w hw => by simp [go_sem, e5, e7]) ?_
    simp only [Act.put, List.setIfInBounds_toArray, List.set_cons_zero, List.set_cons_succ]
    refine wpQ_run rfl (.int .u64 d) (fun w hw => by simp [go_sem, e6]) ?_
    simp only [Act.put, List.setIfInBounds_toArray, List.set_cons_zero, List.set_cons_succ]
    refine wpQ_call rfl 20 #[.int .u64 d] (fun w => by simp [go_sem]) _ (Nat.le_refl _) HOF.out ?_
    simp only [Act.put, List.setIfInBounds_toArray, List.set_cons_zero, List.set_cons_succ]
    refine wpQ_call rfl 33 #[.agg ZV, .agg DV] (fun w => by simp [go_sem]) _ (Nat.le_refl _) HAD.out ?_
    simp only [Act.put, List.setIfInBounds_toArray, List.set_cons_zero, List.set_cons_succ]
    refine wpQ_run rfl (.agg #[.int .u64 0, .int .u64 0, .int .u64 0, .int .u64 0, .int .u64 0]) (fun w hw => by simp [go_sem]) ?_
    simp only [Act.put, List.setIfInBounds_toArray, List.set_cons_zero, List.set_cons_succ]
    refine wpQ_call rfl 23 #[.agg TV, .agg #[.int .u64 0, .int .u64 0, .int .u64 0, .int .u64 0, .int .u64 0]] (fun w => by simp [go_sem]) _ (Nat.le_refl _) HSM.out ?_
    simp only [Act.put, List.setIfInBounds_toArray, List.set_cons_zero, List.set_cons_succ]
    refine wpQ_run rfl (.bool true) (fun w hw => by simp [go_sem]) ?_
    simp only [Act.put, List.setIfInBounds_toArray, List.set_cons_zero, List.set_cons_succ]
    refine wpQ_call rfl 18 #[] (fun w => by simp [go_sem]) _ (Nat.le_refl _) HAW.out ?_
    simp only [Act.put, List.setIfInBounds_toArray, List.set_cons_zero, List.set_cons_succ]
    refine wpQ_run rfl (.bool true) (fun w hw => by simp [go_sem]) ?_
    simp only [Act.put, List.setIfInBounds_toArray, List.set_cons_zero, List.set_cons_succ]
    refine wpQ_run rfl (.bool true) (fun w hw => by simp [go_sem]) ?_
    simp only [Act.put, List.setIfInBounds_toArray, List.set_cons_zero, List.set_cons_succ]
    intro w8 hb8
    have hW8 := hW7.trans (hb8.mono (by omega))
    clear hb8 hZ7 hW7
    go_wp2_with fail
    go_ret
    exact ⟨rfl, hW8⟩
end Go.Proofs.Ytddgkoheihlbdaa

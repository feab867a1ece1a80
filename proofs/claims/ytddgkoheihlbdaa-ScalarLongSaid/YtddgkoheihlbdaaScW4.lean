/- scalar: the law ScalarLong: the walk. -/
import Derived.Test.YtddgkoheihlbdaaScZ
namespace Go.Proofs.Ytddgkoheihlbdaa
open Go.RowKit

theorem sl_cell {w : World} {g o n c : Nat} {l : List UInt8} (h : Sl w (some ⟨g, o, none⟩) n c l) : ∀ i, i < n → w.cell? ⟨g, o + i, none⟩ = some (.int .u8 ((l.getD i 0).toNat : Int)) := fun i hi => by
  obtain ⟨b, o', e, hc⟩ := h.2.2.2.2.resolve_left (by omega)
  cases e
  exact hc i hi

set_option maxRecDepth 100000 in
set_option maxHeartbeats 20000000 in
theorem ScalarLong_walk (a0 : Option Addr) (len0 cap0 : Nat) (z0 : List Int) (n : Int) (w : World) (w0 : IsRow .u8 w a0 len0 cap0 z0) (w1 : (Lit.int .u8 n).wf = true) :
    Calls Try.prog 5 #[.slice a0 len0 cap0, .int .u8 n] w fun e w' => e = .returned (.bool true) ∧ Below w.heap.size w w' := by
  obtain ⟨l, hs⟩ := w0.sl
  have hln := hs.1
  have hcap := hs.2.1
  have hml := hs.2.2.1
  obtain ⟨nn, hnn⟩ : ∃ nn : Nat, n = (nn : Int) ∧ nn < 256 := by
    simp [Lit.wf, IntKind.min, IntKind.max, IntKind.bits, IntKind.signed] at w1
    exact ⟨n.toNat, by omega, by omega⟩
  obtain ⟨rfl, hn256⟩ := hnn
  have HAW := Lib.hid (fun w : World => awake6_any w)
  have hnb : (len0 : Int) ≤ 9223372036854775807 := by unfold maxLen at hml; omega
  clear w0 w1 hml
  by_cases hgt : 100 < len0
  · go_enter Try.func5, Try.ntmps5
    go_wp2_with fail
    refine (HAW.out _).mono ?_
    rintro e w9 ⟨rfl, hb9⟩
    go_wp2_with fail
    go_ret
    exact ⟨rfl, hb9⟩
  · obtain ⟨m, hm⟩ : ∃ m, m = nn % 50 := ⟨_, rfl⟩
    have m1 : (nn : Int) % 50 = (m : Int) := by omega
    have m1' : (nn : Int).tmod 50 = (m : Int) := by rw [Int.tmod_eq_emod_of_nonneg (by omega)]; exact m1
    have hm50 : m < 50 := by omega
    clear hm
    have HR := Lib.hid (fun w (h : Sl w a0 len0 cap0 l) => reduce_any a0 len0 cap0 l w h)
    have HRY := Lib.hid (fun a c w (h : Sl w a (len0 + m) c (l ++ List.replicate m 0)) => reduce_any a (len0 + m) c (l ++ List.replicate m 0) w h)
    rw [leNat_append, leNat_zeros, Nat.mul_zero, Nat.add_zero] at HRY
    have hNL : leNat l % LL < LL := Nat.mod_lt _ (by unfold LL; omega)
    obtain ⟨N, hN⟩ : ∃ N, N = leNat l % LL := ⟨_, rfl⟩
    rw [← hN] at HR HRY hNL
    clear hN
    have h2l : 2 * LL < 256 ^ 32 := by unfold LL; decide
    have hlp : N + LL < 256 ^ 32 := by omega
    clear h2l
    have HRM := Lib.hid (fun a c w (h : Sl w a 32 c (leBytes (N + LL) 32)) => reduce_any a 32 c (leBytes (N + LL) 32) w h)
    have HMM := Lib.hid (fun a c w (h : Sl w a 32 c (leBytes (N + LL) 32)) => may_any a 32 c (leBytes (N + LL) 32) w h)
    rw [leNat_leBytes, Nat.mod_eq_of_lt hlp, Nat.add_mod_right, Nat.mod_eq_of_lt hNL] at HRM
    have hmf : mayB (leBytes (N + LL) 32) = false := by unfold mayB; rw [leNat_leBytes, Nat.mod_eq_of_lt hlp, decide_eq_false (show ¬ N + LL < LL by omega), Bool.and_false]
    rw [hmf] at HMM
    clear hmf hlp hNL
    have HEQ := Lib.hid (fun w => eq_same N w)
    have HOS := Lib.hid (bts_size N)
    have HO1 := Lib.hid (bts_one N)
    have HOB := Lib.hid (fun k (hk : k < 32) => lCells_leBytes_get N 32 k hk)
    change Hid (∀ k, k < 32 → (bts N)[k]? = some (.int .u8 (byN N k : Nat))) at HOB
    obtain ⟨O, hO⟩ : ∃ O, O = bts N := ⟨_, rfl⟩
    rw [← hO] at HR HRY HRM HEQ HOS HO1 HOB
    clear hO
    obtain ⟨i0, hi0, hz0, hz1, hz2⟩ := info_parts infoU8
    have hB := Below.refl w.heap.size w
    go_enter Try.func5, Try.ntmps5
    go_upto_region 3 with fail
    go_step
    refine wpList_value rfl (.slice a0 len0 cap0) (by simp [go_sem]) ?_
    simp only [Act.put, List.setIfInBounds_toArray, List.set_cons_zero, List.set_cons_succ]
    refine wpList_made_call rfl 27 #[.slice a0 len0 cap0] (by simp [go_sem]) _ (HR.out _ hs) ?_
    intro v1 b1
    simp only [Act.put, List.setIfInBounds_toArray, List.set_cons_zero, List.set_cons_succ]
    replace hs := hs.after b1
    replace hB := hB.trans b1
    clear b1
    refine wpList_new rfl 40 rfl #[.int .u8 0, .int .u8 0, .int .u8 0, .int .u8 0, .int .u8 0, .int .u8 0, .int .u8 0, .int .u8 0, .int .u8 0, .int .u8 0, .int .u8 0, .int .u8 0, .int .u8 0, .int .u8 0, .int .u8 0, .int .u8 0, .int .u8 0, .int .u8 0, .int .u8 0, .int .u8 0, .int .u8 0, .int .u8 0, .int .u8 0, .int .u8 0, .int .u8 0, .int .u8 0, .int .u8 0, .int .u8 0, .int .u8 0, .int .u8 0, .int .u8 0, .int .u8 0] (by intro w; simp [go_sem]) ?_
    intro gX v2 hX0 lX b2
    simp only [Act.put, List.setIfInBounds_toArray, List.set_cons_zero, List.set_cons_succ]
    refine wpList_store_box (cells := O) rfl 40 (.tmp 5) (.tmp 17) rfl hX0 (by rfl) (by rfl) (by rw [HOS.out]; rfl) (by rw [HOS.out]; kernel_rfl) HO1.out ?_
    intro v3 hX st3
    simp only [Act.put]
    replace hs := hs.after (st3.below v1.heap.size v1 lX b2)
    have lX' := Nat.le_trans hB.size lX
    replace hB := st3.below w.heap.size w lX' (hB.trans (b2.mono hB.size))
    clear st3 hX0 b2 lX
    go_upto_region 4 with fail
    go_step
    refine wpList_valw rfl (.slice (some ⟨v3.heap.size, 0, none⟩) 0 0) (v3.alloc (.cells #[] 5)) (by simp [go_sem]) ?_
    simp only [Act.put, List.setIfInBounds_toArray, List.set_cons_zero, List.set_cons_succ]
    have hown0 : (v3.alloc (.cells #[] 5)).ownsRow v3.heap.size 5 1 (.slice (some ⟨v3.heap.size, 0, none⟩) 0 0) 0 (Lib.byteCells []) :=
      World.ownsRow_lit (base := v3.heap.size) (size := 1) (e := 5) v3 #[] 0 (Nat.le_refl _) (Nat.zero_le _) rfl
    have bz : Below v3.heap.size v3 (v3.alloc (.cells #[] 5)) := (Below.refl _ _).alloc (Nat.le_refl _) _
    have hs4 := hs.after bz
    refine wpList_value rfl (.slice a0 len0 cap0) (by simp [go_sem]) ?_
    simp only [Act.put, List.setIfInBounds_toArray, List.set_cons_zero, List.set_cons_succ]
    refine wpList_append_sl rfl (.tmp 18) (.tmp 19) 22 rfl v3.heap.size 5 i0 Try.underlying22 hi0 hz0 hz1 hz2 (.slice (some ⟨v3.heap.size, 0, none⟩) 0 0) 0 [] (by simp [go_sem]) hown0 a0 len0 cap0 l (by simp [go_sem]) hs4 (by omega) (by simp) ?_
    intro sv v4 hown1 hg1
    simp only [Act.put, List.setIfInBounds_toArray, List.set_cons_zero, List.set_cons_succ]
    have b4 : Below v3.heap.size v3 v4 := bz.grown hg1 (by simp) (fun j hj => (hown0.lt j hj).1)
    rw [List.nil_append, Nat.zero_add] at hown1
    clear hg1 hown0 bz hs4
    refine wpList_value rfl (.int .u8 (nn : Int)) (by simp [go_sem]) ?_
    simp only [Act.put, List.setIfInBounds_toArray, List.set_cons_zero, List.set_cons_succ]
    refine wpList_value rfl (.int .u8 (m : Int)) (by simp [go_sem, m1']) ?_
    simp only [Act.put, List.setIfInBounds_toArray, List.set_cons_zero, List.set_cons_succ]
    refine wpList_append_zeros rfl (.tmp 20) (.tmp 22) 22 5 5 rfl v3.heap.size i0 .u8 Try.underlying22 Try.underlying5 hi0 hz0 hz1 hz2 sv len0 l (by simp [go_sem]) hown1 m (by simp [go_sem]) (by omega) (by omega) b4.size ?_
    intro sv2 v5 hown2 hg2
    simp only [Act.put, List.setIfInBounds_toArray, List.set_cons_zero, List.set_cons_succ]
    have b5 := b4.grown hg2 b4.size (fun j hj => (hown1.lt j hj).1)
    clear hg2 hown1 b4
    obtain ⟨ay, cy, rfl, hsy⟩ := Sl.ofOwns hown2
    refine wpList_made_call rfl 27 #[.slice ay (len0 + m) cy] (by simp [go_sem]) _ (HRY.out _ _ _ hsy) ?_
    intro v6 b6
    simp only [Act.put, List.setIfInBounds_toArray, List.set_cons_zero, List.set_cons_succ]
    replace b6 := b5.trans (b6.mono b5.size)
    clear b5 hsy hown2
    replace hX := hX.after b6
    replace hB := hB.trans (b6.mono hB.size)
    clear b6 hs
    refine wpList_new rfl 40 rfl #[.int .u8 0, .int .u8 0, .int .u8 0, .int .u8 0, .int .u8 0, .int .u8 0, .int .u8 0, .int .u8 0, .int .u8 0, .int .u8 0, .int .u8 0, .int .u8 0, .int .u8 0, .int .u8 0, .int .u8 0, .int .u8 0, .int .u8 0, .int .u8 0, .int .u8 0, .int .u8 0, .int .u8 0, .int .u8 0, .int .u8 0, .int .u8 0, .int .u8 0, .int .u8 0, .int .u8 0, .int .u8 0, .int .u8 0, .int .u8 0, .int .u8 0, .int .u8 0] (by intro w; simp [go_sem]) ?_
    intro gY v7 hY0 lY b7
    simp only [Act.put, List.setIfInBounds_toArray, List.set_cons_zero, List.set_cons_succ]
    refine wpList_store_box (cells := O) rfl 40 (.tmp 6) (.tmp 24) rfl hY0 (by rfl) (by rfl) (by rw [HOS.out]; rfl) (by rw [HOS.out]; kernel_rfl) HO1.out ?_
    intro v8 hY st8
    simp only [Act.put]
    have nXY : gX ≠ gY := fun e => by have := hX.lt; omega
    replace hX := st8.box (hX.after b7) nXY
    replace hB := st8.below w.heap.size w (Nat.le_trans hB.size lY) (hB.trans (b7.mono hB.size))
    clear st8 hY0 b7 lY nXY
    go_upto_region 6 with fail
    have hsl := sl_lit v8 5 LB (by decide)
    change Sl _ _ 32 32 LB at hsl
    have b9 : Below v8.heap.size v8 (v8.alloc (.cells (lCells LB).toArray 5)) := (Below.refl _ _).alloc (Nat.le_refl _) _
    replace hX := hX.after b9
    replace hY := hY.after b9
    replace hB := hB.trans (b9.mono hB.size)
    change Code.wp _ _ _ _ (v8.alloc (.cells (lCells LB).toArray 5))
    generalize (v8.alloc (.cells (lCells LB).toArray 5)) = W at *
    generalize v8.heap.size = gL at *
    clear b9
    have hown0 : (W.alloc (.cells #[] 5)).ownsRow W.heap.size 5 1 (.slice (some ⟨W.heap.size, 0, none⟩) 0 0) 0 (Lib.byteCells (leBytes (N + LL) 0)) :=
      World.ownsRow_lit (base := W.heap.size) (size := 1) (e := 5) W #[] 0 (Nat.le_refl _) (Nat.zero_le _) rfl
    have hbn : Below W.heap.size W (W.alloc (.cells #[] 5)) := (Below.refl _ _).alloc (Nat.le_refl _) _
    go_wp2_with fail
    go_loopw [8, 9, 10] (fun mv cv iv wr => ∃ k : Nat, k ≤ 32 ∧ iv = .int .i64 k ∧ cv = .int .i64 (cB N LL k : Nat) ∧ wr.ownsRow W.heap.size 5 1 mv k (Lib.byteCells (leBytes (N + LL) k)) ∧ Below W.heap.size W wr) (fun _ _ i _ => 32 - (intOf i).toNat)
    case atStart => exact ⟨0, Nat.zero_le _, rfl, by rw [cB_zero]; rfl, hown0, hbn⟩
    case round =>
      obtain ⟨wa, rfl⟩ : ∃ wa : World, wa = wr := ⟨_, rfl⟩
      obtain ⟨k, hk, rfl, rfl, hown, hB2⟩ := hrel
      clear hown0 hbn
      by_cases hlt : k < 32
      · have gx := (hX.after hB2).cell k (HOB.out k hlt)
        have gl := (hB2.cell (p := ⟨gL, 0 + k, none⟩) (cell_lt ((sl_cell hsl) k hlt))).trans (sl_cell hsl k hlt)
        rw [Nat.zero_add, LB_byte] at gl
        obtain ⟨a1, a2⟩ := add_byte N LL k
        have d1 := byN_lt N k
        have d2 := byN_lt LL k
        have d3 := cB_le N LL k
        have d4 := cB_le N LL (k + 1)
        have HS := Lib.hid (leBytes_succ (N + LL) k)
        obtain ⟨x, hx⟩ : ∃ x, x = byN N k := ⟨_, rfl⟩
        obtain ⟨y, hy⟩ : ∃ y, y = byN LL k := ⟨_, rfl⟩
        obtain ⟨c, hc⟩ : ∃ c, c = cB N LL k := ⟨_, rfl⟩
        obtain ⟨c', hc'⟩ : ∃ c', c' = cB N LL (k + 1) := ⟨_, rfl⟩
        obtain ⟨r, hr⟩ : ∃ r, r = byN (N + LL) k := ⟨_, rfl⟩
        rw [← hx] at gx a1 a2 d1
        rw [← hy] at gl a1 a2 d2
        rw [← hc] at a1 a2 d3 ⊢
        rw [← hc'] at a2 d4
        rw [← hr] at a1 HS
        have HC := Lib.hid hc'
        obtain ⟨s1, hs1⟩ : ∃ s1, s1 = x + y := ⟨_, rfl⟩
        obtain ⟨s2, hs2⟩ : ∃ s2, s2 = s1 + c := ⟨_, rfl⟩
        have m2 : (x : Int) + (y : Int) = (s1 : Int) := by omega
        have m3 : (s1 : Int) + (c : Int) = (s2 : Int) := by omega
        have m4 : (s2 : Int).tmod 256 = (r : Int) := by rw [Int.tmod_eq_emod_of_nonneg (by omega)]; omega
        have m5 : (s2 : Int) / 256 = (c' : Int) := by omega
        have k1 : IntKind.i64.wrap (s1 : Int) = (s1 : Int) := by rw [IntKind.wrap_i64]; omega
        have k2 : IntKind.i64.wrap (s2 : Int) = (s2 : Int) := by rw [IntKind.wrap_i64]; omega
        have k3 : IntKind.u8.wrap (r : Int) = (r : Int) := by rw [IntKind.wrap_u8]; omega
        have k4 : IntKind.i64.wrap (x : Int) = (x : Int) := by rw [IntKind.wrap_i64]; omega
        have k5 : IntKind.i64.wrap (y : Int) = (y : Int) := by rw [IntKind.wrap_i64]; omega
        have hrb : r < 256 := by omega
        have hs2b : s2 < 600 := by omega
        clear a1 a2 hx hy hc hc' hr hs1 hs2
        have e1 : (r : Int) = ((UInt8.ofNat r).toNat : Int) := by rw [UInt8.toNat_ofNat', Nat.mod_eq_of_lt (by omega)]
        have b1 : (0 : Int) ≤ (k : Int) := by omega
        have b2 : (k : Int) < 32 := by omega
        have hkx := cell_lt gx
        have hkl := cell_lt gl
        go_upto_region 11 with fail
        refine wp_region_made wa.heap.size wa rfl (by kernel_rfl) (Below.refl _ _) ?_
        refine wpQ_run rfl (.int .i64 k) (fun w hw => by simp [go_sem]) ?_
        simp only [Act.put, List.setIfInBounds_toArray, List.set_cons_zero, List.set_cons_succ]
        refine wpQ_run rfl (.pointer (some ⟨gX, k, none⟩)) (fun w hw => by simp [go_sem, b1, b2]) ?_
        simp only [Act.put, List.setIfInBounds_toArray, List.set_cons_zero, List.set_cons_succ]
        refine wpQ_run rfl (.int .u8 x) (fun w hw => by simp [go_sem, (hw.cell (p := ⟨gX, k, none⟩) hkx).trans gx]) ?_
        simp only [Act.put, List.setIfInBounds_toArray, List.set_cons_zero, List.set_cons_succ]
        refine wpQ_run rfl (.int .i64 x) (fun w hw => by simp [go_sem, k4]) ?_
        simp only [Act.put, List.setIfInBounds_toArray, List.set_cons_zero, List.set_cons_succ]
        refine wpQ_run rfl (.slice (some ⟨gL, 0, none⟩) 32 32) (fun w hw => by simp [go_sem]) ?_
        simp only [Act.put, List.setIfInBounds_toArray, List.set_cons_zero, List.set_cons_succ]
        refine wpQ_run rfl (.int .i64 k) (fun w hw => by simp [go_sem]) ?_
        simp only [Act.put, List.setIfInBounds_toArray, List.set_cons_zero, List.set_cons_succ]
        refine wpQ_run rfl (.pointer (some ⟨gL, k, none⟩)) (fun w hw => by simp [go_sem, b1, b2] <;> (intro h; exact h.symm)) ?_
        simp only [Act.put, List.setIfInBounds_toArray, List.set_cons_zero, List.set_cons_succ]
        refine wpQ_run rfl (.int .u8 y) (fun w hw => by simp [go_sem, (hw.cell (p := ⟨gL, k, none⟩) hkl).trans gl]) ?_
        simp only [Act.put, List.setIfInBounds_toArray, List.set_cons_zero, List.set_cons_succ]
        refine wpQ_run rfl (.int .i64 y) (fun w hw => by simp [go_sem, k5]) ?_
        simp only [Act.put, List.setIfInBounds_toArray, List.set_cons_zero, List.set_cons_succ]
        refine wpQ_run rfl (.int .i64 s1) (fun w hw => by simp [go_sem, m2, k1]) ?_
        simp only [Act.put, List.setIfInBounds_toArray, List.set_cons_zero, List.set_cons_succ]
        refine wpQ_run rfl (.int .i64 c) (fun w hw => by simp [go_sem]) ?_
        simp only [Act.put, List.setIfInBounds_toArray, List.set_cons_zero, List.set_cons_succ]
        refine wpQ_run rfl (.int .i64 s2) (fun w hw => by simp [go_sem, m3, k2]) ?_
        simp only [Act.put, List.setIfInBounds_toArray, List.set_cons_zero, List.set_cons_succ]
        refine wpQ_run rfl (.int .i64 s2) (fun w hw => by simp [go_sem]) ?_
        simp only [Act.put, List.setIfInBounds_toArray, List.set_cons_zero, List.set_cons_succ]
        intro w1 hb1
        replace hown := own_after hown hb1
        replace hB2 := hB2.trans (hb1.mono hB2.size)
        clear hb1 gx gl hkx hkl
        go_upto_region 12 with fail
        go_step
        refine wpList_value rfl (_) (by simp [go_sem]; rfl) ?_
        simp only [Act.put, List.setIfInBounds_toArray, List.set_cons_zero, List.set_cons_succ]
        refine wpList_value rfl (.int .i64 s2) (by simp [go_sem]) ?_
        simp only [Act.put, List.setIfInBounds_toArray, List.set_cons_zero, List.set_cons_succ]
        refine wpList_value rfl (.int .i64 r) (by simp [go_sem, m4]) ?_
        simp only [Act.put, List.setIfInBounds_toArray, List.set_cons_zero, List.set_cons_succ]
        refine wpList_value rfl (.int .u8 ((UInt8.ofNat r).toNat : Int)) (by rw [← e1]; simp [go_sem, k3]) ?_
        simp only [Act.put, List.setIfInBounds_toArray, List.set_cons_zero, List.set_cons_succ]
        refine wpList_valw rfl (.slice (some ⟨w1.heap.size, 0, none⟩) 1 1) (w1.alloc (.cells (lCells [UInt8.ofNat r]).toArray 5)) (by simp [go_sem]; rfl) ?_
        simp only [Act.put, List.setIfInBounds_toArray, List.set_cons_zero, List.set_cons_succ]
        have hs1 := sl_lit w1 5 [UInt8.ofNat r] (by simp [maxLen])
        change Sl _ _ 1 1 [UInt8.ofNat r] at hs1
        have hw1 : W.heap.size ≤ w1.heap.size := hB2.size
        refine wpList_append_sl rfl (.tmp 43) (.tmp 47) 22 rfl W.heap.size 5 i0 Try.underlying22 hi0 hz0 hz1 hz2 _ k (leBytes (N + LL) k) (by simp [go_sem]) (hown.alloc _) (some ⟨w1.heap.size, 0, none⟩) 1 1 [UInt8.ofNat r] (by simp [go_sem]) hs1 (by omega) (by simp; omega) ?_
        intro sv2 w2 hown2 hg2
        simp only [Act.put, List.setIfInBounds_toArray, List.set_cons_zero, List.set_cons_succ]
        have hB3 : Below W.heap.size W w2 := (hB2.alloc hw1 (.cells (lCells [UInt8.ofNat r]).toArray 5)).grown hg2 (by simp; omega) (fun j hj => ((hown.alloc (.cells (lCells [UInt8.ofNat r]).toArray 5)).lt j hj).1)
        rw [← HS.out] at hown2
        clear hg2 hs1 hown hB2
        refine wpList_value rfl (sv2) (by simp [go_sem]) ?_
        simp only [Act.put, List.setIfInBounds_toArray, List.set_cons_zero, List.set_cons_succ]
        go_wp2_with fail
        exact ⟨⟨k + 1, by omega, by go_num, by rw [HC.out], hown2, hB3⟩, by simp [intOf] <;> omega⟩
      · have hk32 : k = 32 := by omega
        rw [hk32] at hown
        have hkn : ¬ (k : Int) < 32 := by omega
        clear hk32 hlt
        obtain ⟨am, cm, rfl, hsm⟩ := Sl.ofOwns hown
        replace hX := hX.after hB2
        replace hY := hY.after hB2
        replace hB := hB.trans (hB2.mono hB.size)
        clear hB2 hown hsl
        go_upto_region 14 with fail
        have hKS : Keeps (fun w' : World => Box w' gX 40 O ∧ Box w' gY 40 O ∧ Sl w' am 32 cm (leBytes (N + LL) 32)) := fun w w' h b => ⟨h.1.after b, h.2.1.after b, h.2.2.after b⟩
        refine wp_region_U (w := wa) (fun w' : World => Box w' gX 40 O ∧ Box w' gY 40 O ∧ Sl w' am 32 cm (leBytes (N + LL) 32)) rfl ⟨hX.drew, hY.drew, hsm.drew⟩ ?_
        refine wpU_val 0 hKS rfl (by kernel_rfl) (by kernel_rfl) (by kernel_rfl) rfl (fun _ _ _ _ h => h) (.agg (O)) (fun w' h => run_load_box rfl h.1 (by simp [go_sem]) Try.underlying40 rfl (by rw [HOS.out]; kernel_rfl)) ?_
        simp only [Act.put, List.setIfInBounds_toArray, List.set_cons_zero, List.set_cons_succ]
        refine wpU_val 1 hKS rfl (by kernel_rfl) (by kernel_rfl) (by kernel_rfl) rfl (fun _ _ _ _ h => h) (.agg (O)) (fun w' h => run_load_box rfl h.2.1 (by simp [go_sem]) Try.underlying40 rfl (by rw [HOS.out]; kernel_rfl)) ?_
        simp only [Act.put, List.setIfInBounds_toArray, List.set_cons_zero, List.set_cons_succ]
        refine wpU_val 2 hKS rfl (by kernel_rfl) (by kernel_rfl) (by kernel_rfl) rfl (fun _ _ _ _ h => h) (.bool true) (fun w' h => by simp [go_sem, HEQ.out]) ?_
        simp only [Act.put, List.setIfInBounds_toArray, List.set_cons_zero, List.set_cons_succ]
        refine wpU_val 3 hKS rfl (by kernel_rfl) (by kernel_rfl) (by kernel_rfl) rfl (fun _ _ _ _ h => h) (.bool true) (fun w' h => by simp [go_sem]) ?_
        simp only [Act.put, List.setIfInBounds_toArray, List.set_cons_zero, List.set_cons_succ]
        refine wpU_val 4 hKS rfl (by kernel_rfl) (by kernel_rfl) (by kernel_rfl) rfl (fun _ _ _ _ h => h) (.slice am 32 cm) (fun w' h => by simp [go_sem]) ?_
        simp only [Act.put, List.setIfInBounds_toArray, List.set_cons_zero, List.set_cons_succ]
        refine wpU_callS 5 hKS rfl (by kernel_rfl) (by kernel_rfl) (by kernel_rfl) rfl (fun _ _ _ _ h => h) 27 #[.slice am 32 cm] (fun w => by simp [go_sem]) _ (fun w' h => HRM.out _ _ _ h.2.2) ?_
        simp only [Act.put, List.setIfInBounds_toArray, List.set_cons_zero, List.set_cons_succ]
        refine wpU_val 6 hKS rfl (by kernel_rfl) (by kernel_rfl) (by kernel_rfl) rfl (fun _ _ _ _ h => h) (.agg (O)) (fun w' h => run_load_box rfl h.1 (by simp [go_sem]) Try.underlying40 rfl (by rw [HOS.out]; kernel_rfl)) ?_
        simp only [Act.put, List.setIfInBounds_toArray, List.set_cons_zero, List.set_cons_succ]
        refine wpU_val 7 hKS rfl (by kernel_rfl) (by kernel_rfl) (by kernel_rfl) rfl (fun _ _ _ _ h => h) (.bool true) (fun w' h => by simp [go_sem, HEQ.out]) ?_
        simp only [Act.put, List.setIfInBounds_toArray, List.set_cons_zero, List.set_cons_succ]
        refine wpU_val 8 hKS rfl (by kernel_rfl) (by kernel_rfl) (by kernel_rfl) rfl (fun _ _ _ _ h => h) (.bool true) (fun w' h => by simp [go_sem]) ?_
        simp only [Act.put, List.setIfInBounds_toArray, List.set_cons_zero, List.set_cons_succ]
        refine wpU_val 9 hKS rfl (by kernel_rfl) (by kernel_rfl) (by kernel_rfl) rfl (fun _ _ _ _ h => h) (.bool true) (fun w' h => by simp [go_sem]) ?_
        simp only [Act.put, List.setIfInBounds_toArray, List.set_cons_zero, List.set_cons_succ]
        refine wpU_val 10 hKS rfl (by kernel_rfl) (by kernel_rfl) (by kernel_rfl) rfl (fun _ _ _ _ h => h) (.slice am 32 cm) (fun w' h => by simp [go_sem]) ?_
        simp only [Act.put, List.setIfInBounds_toArray, List.set_cons_zero, List.set_cons_succ]
        refine wpU_callS 11 hKS rfl (by kernel_rfl) (by kernel_rfl) (by kernel_rfl) rfl (fun _ _ _ _ h => h) 29 #[.slice am 32 cm] (fun w => by simp [go_sem]) _ (fun w' h => HMM.out _ _ _ h.2.2) ?_
        simp only [Act.put, List.setIfInBounds_toArray, List.set_cons_zero, List.set_cons_succ]
        refine wpU_val 12 hKS rfl (by kernel_rfl) (by kernel_rfl) (by kernel_rfl) rfl (fun _ _ _ _ h => h) (.bool true) (fun w' h => by simp [go_sem]) ?_
        simp only [Act.put, List.setIfInBounds_toArray, List.set_cons_zero, List.set_cons_succ]
        refine wpU_val 13 hKS rfl (by kernel_rfl) (by kernel_rfl) (by kernel_rfl) rfl (fun _ _ _ _ h => h) (.bool true) (fun w' h => by simp [go_sem]) ?_
        simp only [Act.put, List.setIfInBounds_toArray, List.set_cons_zero, List.set_cons_succ]
        refine wpU_val 14 hKS rfl (by kernel_rfl) (by kernel_rfl) (by kernel_rfl) rfl (fun _ _ _ _ h => h) (.bool true) (fun w' h => by simp [go_sem]) ?_
        simp only [Act.put, List.setIfInBounds_toArray, List.set_cons_zero, List.set_cons_succ]
        refine wpU_callS 15 hKS rfl (by kernel_rfl) (by kernel_rfl) (by kernel_rfl) rfl (fun _ _ _ _ h => h) 26 #[] (fun w => by simp [go_sem]) _ (fun w' h => HAW.out _) ?_
        simp only [Act.put, List.setIfInBounds_toArray, List.set_cons_zero, List.set_cons_succ]
        refine wpU_val 16 hKS rfl (by kernel_rfl) (by kernel_rfl) (by kernel_rfl) rfl (fun _ _ _ _ h => h) (.bool true) (fun w' h => by simp [go_sem]) ?_
        simp only [Act.put, List.setIfInBounds_toArray, List.set_cons_zero, List.set_cons_succ]
        refine wpU_val 17 hKS rfl (by kernel_rfl) (by kernel_rfl) (by kernel_rfl) rfl (fun _ _ _ _ h => h) (.bool true) (fun w' h => by simp [go_sem]) ?_
        simp only [Act.put, List.setIfInBounds_toArray, List.set_cons_zero, List.set_cons_succ]
        refine wpU_done (by kernel_rfl) ?_
        intro v9 b9 s9
        have hB9 : Below w.heap.size w v9 := hB.drew.trans (b9.mono hB.size)
        clear s9 b9 hKS hB hX hY hsm
        go_wp2_with fail
        go_ret
        exact ⟨rfl, hB9⟩
end Go.Proofs.Ytddgkoheihlbdaa

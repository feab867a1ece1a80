/- field: the document's Add, Neg, Sub: what they compute. -/
import Derived.Test.YtddgkoheihlbdaaFldRef3
import Derived.Test.YtddgkoheihlbdaaFldRefMath2
import Derived.Test.YtddgkoheihlbdaaFld7
import Derived.Test.YtddgkoheihlbdaaSl3
import Derived.Deep.RegionHeld3
namespace Go.Proofs.Ytddgkoheihlbdaa
open Go.RowKit

def sumF (n m j : Nat) : Nat := dig n j + dig m j

set_option maxRecDepth 100000 in
set_option maxHeartbeats 1000000 in
theorem refAdd_any (n m : Nat) (w : World) (hn : n < 115792089237316195423570985008687907853269984665640564039457584007913129639936) (hm : m < 115792089237316195423570985008687907853269984665640564039457584007913129639936) :
    Calls Try.prog 37 #[.agg (fArr (dig n)), .agg (fArr (dig m))] w fun e w' => e = .returned (.agg (fArr (dig ((n + m) % P25)))) ∧ Below w.heap.size w w' := by
  have hv : fval (mix (sumF n m) (dig n) 16) 16 = n + m := by
    rw [fval_congr (g := fun j => dig n j + dig m j) 16 (fun j hj => by unfold mix; rw [if_pos hj]; rfl), fval_add, fval_of_dig, fval_of_dig]
    simp only [Nat.reducePow]
    rw [Nat.mod_eq_of_lt hn, Nat.mod_eq_of_lt hm]
  have HFIT : Hid (∀ w : World, Calls Try.prog 62 #[.agg (fArr (mix (sumF n m) (dig n) 16))] w fun e w' => e = .returned (.agg (fArr (dig ((n + m) % P25)))) ∧ Below w.heap.size w w') := by
    refine Lib.hid fun w => ?_
    have := fit_any (mix (sumF n m) (dig n) 16) w fun j hj => by
      have h1 := dig_lt n j
      have h2 := dig_lt m j
      unfold mix sumF; rw [if_pos hj]; omega
    rwa [hv] at this
  obtain ⟨R, hR⟩ : ∃ R, R = fArr (dig ((n + m) % P25)) := ⟨_, rfl⟩
  rw [← hR] at HFIT ⊢
  have HRS := Lib.hid (show R.size = 16 by rw [hR]; exact fArr_size _)
  have HR1 := Lib.hid (show R.all (·.oneCell') = true by rw [hR]; exact fArr_one _)
  clear hR
  have HDN := Lib.hid (dig_lt n)
  have HDM := Lib.hid (dig_lt m)
  clear hv hn hm
  obtain ⟨X, hX⟩ : ∃ X, X = fArr (dig n) := ⟨_, rfl⟩
  obtain ⟨Y, hY⟩ : ∃ Y, Y = fArr (dig m) := ⟨_, rfl⟩
  rw [← hX, ← hY]
  have HX := Lib.hid hX
  have HY := Lib.hid hY
  clear hX hY
  go_enter Try.func37, Try.ntmps37
  go_upto_region 1 with fail
  have g0 : Box (((w.alloc (.cells X 34)).alloc (.cells Y 34)).alloc (.cells (Array.replicate 16 (Value.int .u64 0)) 34)) w.heap.size 34 X := ((Box.new _ _ _).alloc _).alloc _
  have g1 : Box (((w.alloc (.cells X 34)).alloc (.cells Y 34)).alloc (.cells (Array.replicate 16 (Value.int .u64 0)) 34)) (w.heap.size + 1) 34 Y := by
    have := (Box.new (w.alloc (.cells X 34)) 34 Y).alloc (.cells (Array.replicate 16 (Value.int .u64 0)) 34)
    simp only [World.size_alloc] at this
    exact this
  have g2 : Box (((w.alloc (.cells X 34)).alloc (.cells Y 34)).alloc (.cells (Array.replicate 16 (Value.int .u64 0)) 34)) (w.heap.size + 2) 34 (Array.replicate 16 (Value.int .u64 0)) := by
    have := Box.new ((w.alloc (.cells X 34)).alloc (.cells Y 34)) 34 (Array.replicate 16 (Value.int .u64 0))
    simp only [World.size_alloc] at this
    exact this
  have g3 : Below w.heap.size w (((w.alloc (.cells X 34)).alloc (.cells Y 34)).alloc (.cells (Array.replicate 16 (Value.int .u64 0)) 34)) := (((Below.refl w.heap.size w).alloc (Nat.le_refl _) _).alloc (by simp) _).alloc (by simp; omega) _
  have g4 : w.heap.size + 3 ≤ (((w.alloc (.cells X 34)).alloc (.cells Y 34)).alloc (.cells (Array.replicate 16 (Value.int .u64 0)) 34)).heap.size := by simp
  obtain ⟨N, hN⟩ : ∃ N, N = (Array.replicate 16 (Value.int .u64 0)) := ⟨_, rfl⟩
  have HNS := Lib.hid (show N.size = 16 by rw [hN]; rfl)
  change Code.wp _ _ _ _ (((w.alloc (.cells X 34)).alloc (.cells Y 34)).alloc (.cells (Array.replicate 16 (Value.int .u64 0)) 34))
  generalize (((w.alloc (.cells X 34)).alloc (.cells Y 34)).alloc (.cells (Array.replicate 16 (Value.int .u64 0)) 34)) = W at *
  rw [← hN] at g2
  clear hN
  go_wp2_with fail
  go_loopw [5] (fun i wr => ∃ k : Nat, k ≤ 16 ∧ i = .int .i64 k ∧ Box wr w.heap.size 34 (fArr (mix (sumF n m) (dig n) k)) ∧ Box wr (w.heap.size + 1) 34 Y ∧ Box wr (w.heap.size + 2) 34 N ∧ Below w.heap.size w wr ∧ w.heap.size + 3 ≤ wr.heap.size) (fun i _ => 16 - (intOf i).toNat)
  case atStart => exact ⟨0, by omega, rfl, by rw [mix_zero, ← HX.out]; exact g0, g1, g2, g3, g4⟩
  case round =>
    obtain ⟨wa, rfl⟩ : ∃ wa : World, wa = wr := ⟨_, rfl⟩
    obtain ⟨k, hk, rfl, hX, hY, hN, hB, hS⟩ := hrel
    clear g0 g1 g2 g3 g4
    by_cases hlt : k < 16
    · have gx := hX.cell k (fArr_get _ k hlt)
      rw [mix_here] at gx
      have fx := hX.frozen k
      have hY' := hY
      rw [HY.out] at hY'
      have gy := hY'.cell k (fArr_get _ k hlt)
      have bx := HDN.out k
      have by' := HDM.out k
      have hs := mix_step (sumF n m) (dig n) k
      have hd : sumF n m k = dig n k + dig m k := rfl
      obtain ⟨u, hu⟩ : ∃ u, u = dig n k := ⟨_, rfl⟩
      obtain ⟨v, hv⟩ : ∃ v, v = dig m k := ⟨_, rfl⟩
      obtain ⟨r, hr⟩ : ∃ r, r = sumF n m k := ⟨_, rfl⟩
      rw [← hu] at gx bx hd
      rw [← hv] at gy by' hd
      rw [← hr] at hd hs
      have HS' := Lib.hid hs
      have b5 : (0 : Int) ≤ (k : Int) := by omega
      have b6 : (k : Int) < 16 := by omega
      have b7 : IntKind.i64.wrap (k : Int) = (k : Int) := by rw [IntKind.wrap_i64]; omega
      have m2 : (u : Int) + (v : Int) = (r : Int) := by omega
      clear hs hu hv hr hY' hd
      go_upto_region 4 with fail
      go_still_tail 9, (by kernel_rfl)
      change wpList _ _ _ _ _ wa.drew
      go_wp2_with fail
      refine ⟨⟨k + 1, by omega, by go_num, ?_, hY.far _ _ (by simp), hN.far _ _ (by simp), (hB.setCell (by simp) _).drew, by simpa using hS⟩, by simp [intOf]; omega⟩
      have h1 := hX.set k (.int .u64 (r : Nat))
      rw [fArr_set, HS'.out] at h1
      exact h1
    · obtain rfl : k = 16 := by omega
      obtain ⟨G, hG⟩ : ∃ G, G = fArr (mix (sumF n m) (dig n) 16) := ⟨_, rfl⟩
      rw [← hG] at hX HFIT
      have HGS := Lib.hid (show G.size = 16 by rw [hG]; exact fArr_size _)
      clear hG
      go_upto_region 5 with fail
      go_step
      refine wpList_load_box rfl 34 _ rfl hX (by rfl) Try.underlying34 rfl (by rw [HGS.out]; kernel_rfl) ?_
      refine wpList_enter rfl 62 #[.agg G] (by simp [go_sem, Act.put]) _ _ (HFIT.out _) ?_
      intro w8 hb8
      refine wpList_store_box (cells := R) rfl 34 _ _ rfl (hN.after hb8) (by rfl) (by rfl) (by rw [HNS.out, HRS.out]) (by rw [HRS.out]; kernel_rfl) HR1.out ?_
      intro w9 hR9 hst9
      have hB9 := hst9.below w.heap.size w (by omega) (hB.trans (hb8.mono (by omega)))
      simp only [Act.put, List.setIfInBounds_toArray, List.set_cons_zero, List.set_cons_succ]
      clear hst9 hb8
      go_wp2_with fail
      exact bodyPost_ret (v := .agg R) (box_result rfl _ _ (by rfl) hR9 Try.underlying34 rfl (by rw [HRS.out]; kernel_rfl)) rfl ⟨rfl, hB9⟩

def pCells : Array Value := fArr (dig P25)
theorem pCells_lit : pCells = #[.int .u64 65517, .int .u64 65535, .int .u64 65535, .int .u64 65535, .int .u64 65535, .int .u64 65535, .int .u64 65535, .int .u64 65535, .int .u64 65535, .int .u64 65535, .int .u64 65535, .int .u64 65535, .int .u64 65535, .int .u64 65535, .int .u64 65535, .int .u64 32767] := by kernel_rfl

set_option maxRecDepth 100000 in
set_option maxHeartbeats 1000000 in
theorem refNeg_any (n : Nat) (w : World) (hn : n ≤ P25) :
    Calls Try.prog 73 #[.agg (fArr (dig n))] w fun e w' => e = .returned (.agg (fArr (dig ((P25 - n) % P25)))) ∧ Below w.heap.size w w' := by
  have hv : fval (mix (bd n) (dig n) 16) 16 = P25 - n := by
    rw [fval_congr (g := bd n) 16 (fun j hj => by unfold mix; rw [if_pos hj])]
    exact neg_val n hn
  have HFIT : Hid (∀ w : World, Calls Try.prog 62 #[.agg (fArr (mix (bd n) (dig n) 16))] w fun e w' => e = .returned (.agg (fArr (dig ((P25 - n) % P25)))) ∧ Below w.heap.size w w') := by
    refine Lib.hid fun w => ?_
    have := fit_any (mix (bd n) (dig n) 16) w fun j hj => by
      have h1 := bd_lt n j
      unfold mix; rw [if_pos hj]; omega
    rwa [hv] at this
  obtain ⟨R, hR⟩ : ∃ R, R = fArr (dig ((P25 - n) % P25)) := ⟨_, rfl⟩
  rw [← hR] at HFIT ⊢
  have HRS := Lib.hid (show R.size = 16 by rw [hR]; exact fArr_size _)
  have HR1 := Lib.hid (show R.all (·.oneCell') = true by rw [hR]; exact fArr_one _)
  clear hR
  have HDN := Lib.hid (dig_lt n)
  clear hv hn
  obtain ⟨X, hX⟩ : ∃ X, X = fArr (dig n) := ⟨_, rfl⟩
  rw [← hX]
  have HX := Lib.hid hX
  clear hX
  have hPS : pCells.size = 16 := fArr_size _
  have HP1 := Lib.hid (fArr_one (dig P25))
  have HPS := Lib.hid hPS
  clear hPS
  go_enter Try.func73, Try.ntmps73
  go_upto_region 1 with fail
  have g0 : Box ((w.alloc (.cells X 34)).alloc (.cells (Array.replicate 16 (Value.int .u64 0)) 34)) w.heap.size 34 X := (Box.new _ _ _).alloc _
  have g1 : Box ((w.alloc (.cells X 34)).alloc (.cells (Array.replicate 16 (Value.int .u64 0)) 34)) (w.heap.size + 1) 34 (Array.replicate 16 (Value.int .u64 0)) := by
    have := Box.new (w.alloc (.cells X 34)) 34 (Array.replicate 16 (Value.int .u64 0))
    simp only [World.size_alloc] at this
    exact this
  have g3 : Below w.heap.size w ((w.alloc (.cells X 34)).alloc (.cells (Array.replicate 16 (Value.int .u64 0)) 34)) := ((Below.refl w.heap.size w).alloc (Nat.le_refl _) _).alloc (by simp) _
  have g4 : ((w.alloc (.cells X 34)).alloc (.cells (Array.replicate 16 (Value.int .u64 0)) 34)).heap.size = w.heap.size + 2 := by simp
  obtain ⟨N, hN⟩ : ∃ N, N = (Array.replicate 16 (Value.int .u64 0)) := ⟨_, rfl⟩
  have HNS := Lib.hid (show N.size = 16 by rw [hN]; rfl)
  change Code.wp _ _ _ _ ((w.alloc (.cells X 34)).alloc (.cells (Array.replicate 16 (Value.int .u64 0)) 34))
  generalize ((w.alloc (.cells X 34)).alloc (.cells (Array.replicate 16 (Value.int .u64 0)) 34)) = W at *
  rw [← hN] at g1
  clear hN
  go_step
  refine wpList_value rfl (.agg pCells) (by rw [pCells_lit]; simp [go_sem]) ?_
  refine wpList_alloc_box rfl 34 rfl (Array.replicate 16 (Value.int .u64 0)) (by intro w; simp [go_sem]; rfl) ?_
  refine wpList_store_box (cells := pCells) rfl 34 _ _ rfl (Box.new _ _ _) (by rfl) (by rfl) (by rw [HPS.out]; rfl) (by rw [HPS.out]; kernel_rfl) HP1.out ?_
  intro w2 hP2 hst
  have hX2 := hst.box (g0.alloc _) (by omega)
  have hN2 := hst.box (g1.alloc _) (by omega)
  have hB2 := hst.below w.heap.size w (by omega) (g3.alloc (by omega) _)
  have hS2 : w.heap.size + 3 ≤ w2.heap.size := by have := hst.size; simp at this; omega
  rw [g4] at hP2
  simp only [Act.put, List.setIfInBounds_toArray, List.set_cons_zero, List.set_cons_succ]
  rw [g4]
  clear hst g0 g1 g3 g4
  rw [HX.out] at hX2
  go_wp2_with fail
  go_loopw [4, 5] (fun c i wr => ∃ k : Nat, k ≤ 16 ∧ i = .int .i64 k ∧ c = .int .u64 (br n k : Nat) ∧ Box wr w.heap.size 34 (fArr (mix (bd n) (dig n) k)) ∧ Box wr (w.heap.size + 2) 34 pCells ∧ Box wr (w.heap.size + 1) 34 N ∧ Below w.heap.size w wr ∧ w.heap.size + 3 ≤ wr.heap.size) (fun _ i _ => 16 - (intOf i).toNat)
  case atStart => exact ⟨0, by omega, rfl, rfl, by rw [mix_zero]; exact hX2, hP2, hN2, hB2, hS2⟩
  case round =>
    obtain ⟨wa, rfl⟩ : ∃ wa : World, wa = wr := ⟨_, rfl⟩
    obtain ⟨k, hk, rfl, rfl, hX, hP, hN, hB, hS⟩ := hrel
    clear hX2 hP2 hN2 hB2 hS2
    by_cases hlt : k < 16
    · have gx := hX.cell k (fArr_get _ k hlt)
      rw [mix_here] at gx
      have fx := hX.frozen k
      have gp := hP.cell k (fArr_get _ k hlt)
      have bx := HDN.out k
      have bp := dig_lt P25 k
      have bb := br_le n k
      have hs := mix_step (bd n) (dig n) k
      have hd : bd n k = (dig P25 k + 65536 - dig n k - br n k) % 65536 := rfl
      have hb : br n (k + 1) = 1 - (dig P25 k + 65536 - dig n k - br n k) / 65536 := rfl
      obtain ⟨u, hu⟩ : ∃ u, u = dig n k := ⟨_, rfl⟩
      obtain ⟨v, hv⟩ : ∃ v, v = dig P25 k := ⟨_, rfl⟩
      obtain ⟨r, hr⟩ : ∃ r, r = bd n k := ⟨_, rfl⟩
      obtain ⟨c, hc⟩ : ∃ c, c = br n k := ⟨_, rfl⟩
      obtain ⟨c', hc'⟩ : ∃ c', c' = br n (k + 1) := ⟨_, rfl⟩
      rw [← hu] at gx bx
      rw [← hv] at gp bp
      rw [← hr] at hd hs
      rw [← hu, ← hv, ← hc] at hd
      rw [← hu, ← hv, ← hc, ← hc'] at hb
      rw [← hc] at bb ⊢
      obtain ⟨t, ht⟩ : ∃ t, t = v + 65536 - u - c := ⟨_, rfl⟩
      rw [← ht] at hd hb
      obtain ⟨q, hq⟩ : ∃ q, q = t / 65536 := ⟨_, rfl⟩
      obtain ⟨v1, hv1⟩ : ∃ v1, v1 = v + 65536 := ⟨_, rfl⟩
      obtain ⟨v2, hv2⟩ : ∃ v2, v2 = v1 - u := ⟨_, rfl⟩
      have HS' := Lib.hid hs
      have HC' := Lib.hid hc'
      have b5 : (0 : Int) ≤ (k : Int) := by omega
      have b6 : (k : Int) < 16 := by omega
      have b7 : IntKind.i64.wrap (k : Int) = (k : Int) := by rw [IntKind.wrap_i64]; omega
      have m1 : IntKind.u64.wrap ((v : Int) + 65536) = (v1 : Int) := by rw [IntKind.wrap_u64]; omega
      have m2 : IntKind.u64.wrap ((v1 : Int) - (u : Int)) = (v2 : Int) := by rw [IntKind.wrap_u64]; omega
      have m3 : IntKind.u64.wrap ((v2 : Int) - (c : Int)) = (t : Int) := by rw [IntKind.wrap_u64]; omega
      have m4 : (t : Int) / 65536 = (q : Int) := by omega
      have m5 : (1 : Int) - (q : Int) = (c' : Int) := by omega
      have m6 : (t : Int) % 65536 = (r : Int) := by omega
      have bt : t < 131072 := by omega
      have bq : q ≤ 1 := by omega
      clear hs hu hv hr hc hc' ht hq hv1 hv2 hd hb
      have hcell : ∀ w', Below wa.heap.size wa w' → w'.cell? ⟨w.heap.size, k, none⟩ = some (.int .u64 u) ∧ w'.cell? ⟨w.heap.size + 2, k, none⟩ = some (.int .u64 v) := fun w' h => ⟨(h.cell (p := ⟨w.heap.size, k, none⟩) (by simp; omega)).trans gx, (h.cell (p := ⟨w.heap.size + 2, k, none⟩) (by simp; omega)).trans gp⟩
      go_upto_region 6 with fail
      refine wp_region_made wa.heap.size wa rfl (by kernel_rfl) (Below.refl _ _) ?_
      refine wpQ_run rfl (.int .i64 k) (fun w h => by simp [go_sem]) ?_
      simp only [Act.put, List.setIfInBounds_toArray, List.set_cons_zero, List.set_cons_succ]
      refine wpQ_run rfl (.pointer (some ⟨w.heap.size + 2, k, none⟩)) (fun w h => by simp [go_sem, b5, b6]) ?_
      simp only [Act.put, List.setIfInBounds_toArray, List.set_cons_zero, List.set_cons_succ]
      refine wpQ_run rfl (.int .u64 v) (fun w h => by simp [go_sem, (hcell w h).2]) ?_
      simp only [Act.put, List.setIfInBounds_toArray, List.set_cons_zero, List.set_cons_succ]
      refine wpQ_run rfl (.int .u64 v1) (fun w h => by simp [go_sem, m1]) ?_
      simp only [Act.put, List.setIfInBounds_toArray, List.set_cons_zero, List.set_cons_succ]
      refine wpQ_run rfl (.int .i64 k) (fun w h => by simp [go_sem]) ?_
      simp only [Act.put, List.setIfInBounds_toArray, List.set_cons_zero, List.set_cons_succ]
      refine wpQ_run rfl (.pointer (some ⟨w.heap.size, k, none⟩)) (fun w h => by simp [go_sem, b5, b6]) ?_
      simp only [Act.put, List.setIfInBounds_toArray, List.set_cons_zero, List.set_cons_succ]
      refine wpQ_run rfl (.int .u64 u) (fun w h => by simp [go_sem, (hcell w h).1]) ?_
      simp only [Act.put, List.setIfInBounds_toArray, List.set_cons_zero, List.set_cons_succ]
      refine wpQ_run rfl (.int .u64 v2) (fun w h => by simp [go_sem, m2]) ?_
      simp only [Act.put, List.setIfInBounds_toArray, List.set_cons_zero, List.set_cons_succ]
      refine wpQ_run rfl (.int .u64 c) (fun w h => by simp [go_sem]) ?_
      simp only [Act.put, List.setIfInBounds_toArray, List.set_cons_zero, List.set_cons_succ]
      refine wpQ_run rfl (.int .u64 t) (fun w h => by simp [go_sem, m3]) ?_
      simp only [Act.put, List.setIfInBounds_toArray, List.set_cons_zero, List.set_cons_succ]
      refine wpQ_run rfl (.int .u64 t) (fun w h => by simp [go_sem]) ?_
      simp only [Act.put, List.setIfInBounds_toArray, List.set_cons_zero, List.set_cons_succ]
      intro w3 hb3
      have hX3 := hX.after hb3
      have hP3 := hP.after hb3
      have hN3 := hN.after hb3
      have hB3 := hB.trans (hb3.mono (by omega))
      have hS3 := Nat.le_trans hS hb3.size
      have gx3 := (hcell w3 hb3).1
      have fx3 := hX3.frozen k
      clear hcell hX hP hN hB hS hb3 gx gp fx
      go_wp2_with fail
      refine ⟨⟨k + 1, by omega, by go_num, by rw [HC'.out], ?_, hP3.far _ _ (by simp), hN3.far _ _ (by simp), hB3.setCell (by simp) _, by simpa using hS3⟩, by simp [intOf]; omega⟩
      have h1 := hX3.set k (.int .u64 (r : Nat))
      rw [fArr_set, HS'.out] at h1
      exact h1
    · obtain rfl : k = 16 := by omega
      obtain ⟨G, hG⟩ : ∃ G, G = fArr (mix (bd n) (dig n) 16) := ⟨_, rfl⟩
      rw [← hG] at hX HFIT
      have HGS := Lib.hid (show G.size = 16 by rw [hG]; exact fArr_size _)
      clear hG
      go_upto_region 9 with fail
      go_step
      refine wpList_load_box rfl 34 _ rfl hX (by rfl) Try.underlying34 rfl (by rw [HGS.out]; kernel_rfl) ?_
      refine wpList_enter rfl 62 #[.agg G] (by simp [go_sem, Act.put]) _ _ (HFIT.out _) ?_
      intro w8 hb8
      refine wpList_store_box (cells := R) rfl 34 _ _ rfl (hN.after hb8) (by rfl) (by rfl) (by rw [HNS.out, HRS.out]) (by rw [HRS.out]; kernel_rfl) HR1.out ?_
      intro w9 hR9 hst9
      have hB9 := hst9.below w.heap.size w (by omega) (hB.trans (hb8.mono (by omega)))
      simp only [Act.put, List.setIfInBounds_toArray, List.set_cons_zero, List.set_cons_succ]
      clear hst9 hb8
      go_wp2_with fail
      exact bodyPost_ret (v := .agg R) (box_result rfl _ _ (by rfl) hR9 Try.underlying34 rfl (by rw [HRS.out]; kernel_rfl)) rfl ⟨rfl, hB9⟩

set_option maxRecDepth 100000 in
set_option maxHeartbeats 1000000 in
theorem refSub_any (n m : Nat) (w : World) (hn : n < P25) (hm : m < P25) :
    Calls Try.prog 38 #[.agg (fArr (dig n)), .agg (fArr (dig m))] w fun e w' => e = .returned (.agg (fArr (dig ((n + (P25 - m)) % P25)))) ∧ Below w.heap.size w w' := by
  have hP : P25 < 115792089237316195423570985008687907853269984665640564039457584007913129639936 := by unfold P25; omega
  have hlt : (P25 - m) % P25 < P25 := Nat.mod_lt _ (by unfold P25; omega)
  have HNEG := Lib.hid (fun w : World => refNeg_any m w (Nat.le_of_lt hm))
  have HFIT : Hid (∀ w : World, Calls Try.prog 37 #[.agg (fArr (dig n)), .agg (fArr (dig ((P25 - m) % P25)))] w fun e w' => e = .returned (.agg (fArr (dig ((n + (P25 - m)) % P25)))) ∧ Below w.heap.size w w') := by
    refine Lib.hid fun w => ?_
    have := refAdd_any n ((P25 - m) % P25) w (by omega) (by omega)
    rwa [Nat.add_mod_mod] at this
  obtain ⟨R, hR⟩ : ∃ R, R = fArr (dig ((n + (P25 - m)) % P25)) := ⟨_, rfl⟩
  rw [← hR] at HFIT ⊢
  have HRS := Lib.hid (show R.size = 16 by rw [hR]; exact fArr_size _)
  have HR1 := Lib.hid (show R.all (·.oneCell') = true by rw [hR]; exact fArr_one _)
  clear hR
  clear hP hlt hn hm
  obtain ⟨X, hX⟩ : ∃ X, X = fArr (dig n) := ⟨_, rfl⟩
  obtain ⟨Y, hY⟩ : ∃ Y, Y = fArr (dig m) := ⟨_, rfl⟩
  obtain ⟨M, hM⟩ : ∃ M, M = fArr (dig ((P25 - m) % P25)) := ⟨_, rfl⟩
  rw [← hX, ← hY]
  rw [← hX, ← hM] at HFIT
  rw [← hY, ← hM] at HNEG
  have HXS := Lib.hid (show X.size = 16 by rw [hX]; exact fArr_size _)
  have HYS := Lib.hid (show Y.size = 16 by rw [hY]; exact fArr_size _)
  clear hX hY hM
  go_enter Try.func38, Try.ntmps38
  go_upto_region 1 with fail
  have g0 : Box (((w.alloc (.cells X 34)).alloc (.cells Y 34)).alloc (.cells (Array.replicate 16 (Value.int .u64 0)) 34)) w.heap.size 34 X := ((Box.new _ _ _).alloc _).alloc _
  have g1 : Box (((w.alloc (.cells X 34)).alloc (.cells Y 34)).alloc (.cells (Array.replicate 16 (Value.int .u64 0)) 34)) (w.heap.size + 1) 34 Y := by
    have := (Box.new (w.alloc (.cells X 34)) 34 Y).alloc (.cells (Array.replicate 16 (Value.int .u64 0)) 34)
    simp only [World.size_alloc] at this
    exact this
  have g2 : Box (((w.alloc (.cells X 34)).alloc (.cells Y 34)).alloc (.cells (Array.replicate 16 (Value.int .u64 0)) 34)) (w.heap.size + 2) 34 (Array.replicate 16 (Value.int .u64 0)) := by
    have := Box.new ((w.alloc (.cells X 34)).alloc (.cells Y 34)) 34 (Array.replicate 16 (Value.int .u64 0))
    simp only [World.size_alloc] at this
    exact this
  have g3 : Below w.heap.size w (((w.alloc (.cells X 34)).alloc (.cells Y 34)).alloc (.cells (Array.replicate 16 (Value.int .u64 0)) 34)) := (((Below.refl w.heap.size w).alloc (Nat.le_refl _) _).alloc (by simp) _).alloc (by simp; omega) _
  have g4 : w.heap.size + 3 ≤ (((w.alloc (.cells X 34)).alloc (.cells Y 34)).alloc (.cells (Array.replicate 16 (Value.int .u64 0)) 34)).heap.size := by simp
  obtain ⟨N, hN⟩ : ∃ N, N = (Array.replicate 16 (Value.int .u64 0)) := ⟨_, rfl⟩
  have HNS := Lib.hid (show N.size = 16 by rw [hN]; rfl)
  change Code.wp _ _ _ _ (((w.alloc (.cells X 34)).alloc (.cells Y 34)).alloc (.cells (Array.replicate 16 (Value.int .u64 0)) 34))
  generalize (((w.alloc (.cells X 34)).alloc (.cells Y 34)).alloc (.cells (Array.replicate 16 (Value.int .u64 0)) 34)) = W at *
  rw [← hN] at g2
  clear hN
  have LX : ∀ w' : World, Below (w.heap.size + 2) W w' → Box w' w.heap.size 34 X := fun w' h => g0.below h (by omega)
  have LY : ∀ w' : World, Below (w.heap.size + 2) W w' → Box w' (w.heap.size + 1) 34 Y := fun w' h => g1.below h (by omega)
  refine wp_region_held_drew (S := fun w' => Below (w.heap.size + 2) W w') rfl (Below.refl _ _).drew (fun hS0 => ?_)
  refine wpH_take 0 rfl (by kernel_rfl) (by kernel_rfl) (by kernel_rfl) rfl (fun _ _ _ _ h => h) (.agg X) (fun w' h => run_load_box rfl (LX w' h) (by rfl) Try.underlying34 rfl (by rw [HXS.out]; kernel_rfl)) hS0 ?_
  refine wpH_take 1 rfl (by kernel_rfl) (by kernel_rfl) (by kernel_rfl) rfl (fun _ _ _ _ h => h) (.agg Y) (fun w' h => run_load_box rfl (LY w' h) (by rfl) Try.underlying34 rfl (by rw [HYS.out]; kernel_rfl)) hS0 ?_
  refine wpH_enter 2 rfl (by kernel_rfl) rfl 73 #[.agg Y] (by simp [go_sem, Act.put]) _ (HNEG.out _) ?_
  rintro e w1 ⟨rfl, hb1⟩
  have hB1 := hS0.trans (hb1.mono (by simp; omega))
  have hN1 := (g2.drew).after hb1
  have hs1 : w.heap.size + 3 ≤ w1.heap.size := by have := hb1.size; simp at this; omega
  refine ⟨_, rfl, hB1, ?_⟩
  refine wpH_enter 3 rfl (by kernel_rfl) rfl 37 #[.agg X, .agg M] (by simp [go_sem, Act.put]) _ (HFIT.out _) ?_
  rintro e w2 ⟨rfl, hb2⟩
  have hB2 := hB1.trans (hb2.mono (by omega))
  have hN2 := hN1.after hb2
  refine ⟨_, rfl, hB2, ?_⟩
  refine wpH_store_box 4 rfl (by kernel_rfl) rfl 34 (.tmp 4) (.tmp 8) rfl hN2 (by simp [go_sem, Act.put]) (by simp [go_sem, Act.put]) (by rw [HNS.out, HRS.out]) (by rw [HRS.out]; kernel_rfl) HR1.out ?_
  intro w3 hR3 hst
  have hB3 := hst.below _ _ (Nat.le_refl _) hB2
  refine ⟨hB3, wpAnyH_done (by kernel_rfl) ?_ _⟩
  have hE := g3.trans (hB3.mono (by omega))
  simp only [Act.put, List.setIfInBounds_toArray, List.set_cons_zero, List.set_cons_succ]
  clear hst hB3 hB2 hB1 hb1 hb2 hN1 hN2 LX LY g0 g1 g2 g3 hS0
  go_wp2_with fail
  exact bodyPost_ret (v := .agg R) (box_result rfl _ _ (by rfl) hR3 Try.underlying34 rfl (by rw [HRS.out]; kernel_rfl)) rfl ⟨rfl, hE⟩
end Go.Proofs.Ytddgkoheihlbdaa

/- field: the document's Mul: what it computes. -/
import Derived.Test.YtddgkoheihlbdaaFldRef5
namespace Go.Proofs.Ytddgkoheihlbdaa
open Go.RowKit

/-- the cells of 32 limbs -/
def hArr (f : Nat → Nat) : Array Value := ((List.range 32).map fun j => Value.int .u64 (f j : Nat)).toArray
theorem hArr_get (f : Nat → Nat) (j : Nat) (h : j < 32) : (hArr f)[j]? = some (.int .u64 (f j : Nat)) := by
  simp [hArr, List.getElem?_map, List.getElem?_range h]
theorem hArr_size (f : Nat → Nat) : (hArr f).size = 32 := by simp [hArr]
theorem hArr_set (f : Nat → Nat) (i v : Nat) : (hArr f).setIfInBounds i (.int .u64 (v : Nat)) = hArr (upd f i v) := by
  apply Array.ext
  · simp [hArr]
  · intro j h1 h2
    simp only [hArr, List.size_toArray, List.length_map, List.length_range] at h2
    rw [Array.getElem_setIfInBounds (by simpa [hArr] using h2)]
    by_cases hj : i = j
    · subst hj; simp [hArr, upd]
    · rw [if_neg hj]; simp [hArr, upd, show ¬ j = i from fun e => hj e.symm]
theorem hArr_one (f : Nat → Nat) : (hArr f).all (·.oneCell') = true := all_oneCell_toArray (fun v hv => by simp at hv; obtain ⟨j, _, rfl⟩ := hv; rfl)
theorem hArr_zero : hArr (fun _ => 0) = (Array.replicate 32 (Value.int .u64 0)) := by
  apply Array.ext
  · simp [hArr]
  · intro j h1 h2; simp [hArr]

set_option maxRecDepth 100000 in
set_option maxHeartbeats 4000000 in
theorem refMul_any (n m : Nat) (w : World) (hn : n < 115792089237316195423570985008687907853269984665640564039457584007913129639936) (hm : m < 115792089237316195423570985008687907853269984665640564039457584007913129639936) :
    Calls Try.prog 39 #[.agg (fArr (dig n)), .agg (fArr (dig m))] w fun e w' => e = .returned (.agg (fArr (dig ((n * m) % P25)))) ∧ Below w.heap.size w w' := by
  have hal := allF_le (dig_lt n) (dig_lt m) 16
  have hv : fval (mix (foldF (allF (dig n) (dig m) 16)) (fun _ => 0) 16) 16 % P25 = n * m % P25 := by
    rw [fval_congr (g := foldF (allF (dig n) (dig m) 16)) 16 (fun j hj => by unfold mix; rw [if_pos hj]), foldF_mod, allF_val, fval_of_dig, fval_of_dig]
    simp only [Nat.reducePow]
    rw [Nat.mod_eq_of_lt hn, Nat.mod_eq_of_lt hm]
  have HFIT : Hid (∀ w : World, Calls Try.prog 62 #[.agg (fArr (mix (foldF (allF (dig n) (dig m) 16)) (fun _ => 0) 16))] w fun e w' => e = .returned (.agg (fArr (dig ((n * m) % P25)))) ∧ Below w.heap.size w w') := by
    refine Lib.hid fun w => ?_
    have := fit_any (mix (foldF (allF (dig n) (dig m) 16)) (fun _ => 0) 16) w fun j hj => by
      have h1 := hal j
      have h2 := hal (j + 16)
      unfold mix foldF; rw [if_pos hj]; omega
    rwa [hv] at this
  obtain ⟨R, hR⟩ : ∃ R, R = fArr (dig ((n * m) % P25)) := ⟨_, rfl⟩
  rw [← hR] at HFIT ⊢
  have HRS := Lib.hid (show R.size = 16 by rw [hR]; exact fArr_size _)
  have HR1 := Lib.hid (show R.all (·.oneCell') = true by rw [hR]; exact fArr_one _)
  clear hR
  have HDN := Lib.hid (dig_lt n)
  have HDM := Lib.hid (dig_lt m)
  have HAL := Lib.hid hal
  have HALI := Lib.hid (allF_le (dig_lt n) (dig_lt m))
  have HROW := Lib.hid (fun i k j => rowF_le (dig_lt n) (dig_lt m) i (allF_le (dig_lt n) (dig_lt m) i) k j)
  clear hv hn hm hal
  obtain ⟨X, hX⟩ : ∃ X, X = fArr (dig n) := ⟨_, rfl⟩
  obtain ⟨Y, hY⟩ : ∃ Y, Y = fArr (dig m) := ⟨_, rfl⟩
  rw [← hX, ← hY]
  have HX := Lib.hid hX
  have HY := Lib.hid hY
  clear hX hY
  go_enter Try.func39, Try.ntmps39
  go_upto_region 1 with fail
  have g0 : Box (((w.alloc (.cells X 34)).alloc (.cells Y 34)).alloc (.cells (Array.replicate 16 (Value.int .u64 0)) 34)) w.heap.size 34 X := ((Box.new _ _ _).alloc _).alloc _
  have g1 : Box (((w.alloc (.cells X 34)).alloc (.cells Y 34)).alloc (.cells (Array.replicate 16 (Value.int .u64 0)) 34)) (w.heap.size + 1) 34 Y := by
    have := (Box.new (w.alloc (.cells X 34)) 34 Y).alloc (.cells (Array.replicate 16 (Value.int .u64 0)) 34)
    simp only [World.size_alloc] at this
    exact this
  have g2 : Box (((w.alloc (.cells X 34)).alloc (.cells Y 34)).alloc (.cells (Array.replicate 16 (Value.int .u64 0)) 34)) (w.heap.size + 2) 34 (Array.replicate 16 (Value.int .u64 0)) := by
    have := Box.new ((w.alloc (.cells X 34)).alloc (.cells Y 34)) 34 (Array.replicate 16 (Value.int .u64 0))
    simp only [World.size_alloc] at this
    exact this
  have g3 : Below w.heap.size w (((w.alloc (.cells X 34)).alloc (.cells Y 34)).alloc (.cells (Array.replicate 16 (Value.int .u64 0)) 34)) := (((Below.refl w.heap.size w).alloc (Nat.le_refl _) _).alloc (by simp) _).alloc (by simp; omega) _
  have g4 : (((w.alloc (.cells X 34)).alloc (.cells Y 34)).alloc (.cells (Array.replicate 16 (Value.int .u64 0)) 34)).heap.size = w.heap.size + 3 := by simp
  obtain ⟨N, hN⟩ : ∃ N, N = (Array.replicate 16 (Value.int .u64 0)) := ⟨_, rfl⟩
  have HNS := Lib.hid (show N.size = 16 by rw [hN]; rfl)
  change Code.wp _ _ _ _ (((w.alloc (.cells X 34)).alloc (.cells Y 34)).alloc (.cells (Array.replicate 16 (Value.int .u64 0)) 34))
  generalize (((w.alloc (.cells X 34)).alloc (.cells Y 34)).alloc (.cells (Array.replicate 16 (Value.int .u64 0)) 34)) = W at *
  rw [← hN] at g2
  clear hN
  go_step
  refine wpList_value rfl (.agg (Array.replicate 32 (Value.int .u64 0))) (by simp [go_sem]; rfl) ?_
  refine wpList_alloc_box rfl 102 rfl (Array.replicate 32 (Value.int .u64 0)) (by intro w; simp [go_sem]; rfl) ?_
  refine wpList_store_box (cells := (Array.replicate 32 (Value.int .u64 0))) rfl 102 _ _ rfl (Box.new _ _ _) (by rfl) (by rfl) rfl (by kernel_rfl) (hArr_zero ▸ hArr_one _) ?_
  intro w2 hA2 hst
  have hX2 := hst.box (g0.alloc _) (by omega)
  have hY2 := hst.box (g1.alloc _) (by omega)
  have hN2 := hst.box (g2.alloc _) (by omega)
  have hB2 := hst.below w.heap.size w (by omega) (g3.alloc (by omega) _)
  have hS2 : w.heap.size + 4 ≤ w2.heap.size := by have := hst.size; simp at this; omega
  rw [g4] at hA2
  simp only [Act.put, List.setIfInBounds_toArray, List.set_cons_zero, List.set_cons_succ]
  rw [g4]
  clear hst g0 g1 g2 g3 g4
  rw [HX.out] at hX2
  rw [HY.out] at hY2
  rw [← hArr_zero] at hA2
  generalize (Array.replicate 32 (Value.int .u64 0)) = ZZ at *
  go_wp2_with fail
  go_loopw [6] (fun i wr => ∃ k : Nat, k ≤ 16 ∧ i = .int .i64 k ∧ Box wr (w.heap.size + 3) 102 (hArr (allF (dig n) (dig m) k)) ∧ Box wr w.heap.size 34 (fArr (dig n)) ∧ Box wr (w.heap.size + 1) 34 (fArr (dig m)) ∧ Box wr (w.heap.size + 2) 34 N ∧ Below w.heap.size w wr ∧ w.heap.size + 4 ≤ wr.heap.size) (fun i _ => 16 - (intOf i).toNat)
  case atStart => exact ⟨0, by omega, rfl, hA2, hX2, hY2, hN2, hB2, hS2⟩
  case round =>
    obtain ⟨wa, rfl⟩ : ∃ wa : World, wa = wr := ⟨_, rfl⟩
    obtain ⟨i, hi, rfl, hA, hX, hY, hN, hB, hS⟩ := hrel
    clear hA2 hX2 hY2 hN2 hB2 hS2
    by_cases hlt : i < 16
    · have HNX := Lib.hid (show allF (dig n) (dig m) (i + 1) = rowF (dig n) (dig m) i (allF (dig n) (dig m) i) 16 from rfl)
      have HR' := Lib.hid (fun k j => HROW.out i k j)
      obtain ⟨v, hv⟩ : ∃ v, v = allF (dig n) (dig m) i := ⟨_, rfl⟩
      rw [← hv] at hA HNX HR'
      clear hv
      have b60 : (i : Int) < 16 := by omega
      go_wp2_with fail
      go_loopw [7] (fun i' wr => ∃ k : Nat, k ≤ 16 ∧ i' = .int .i64 k ∧ Box wr (w.heap.size + 3) 102 (hArr (rowF (dig n) (dig m) i v k)) ∧ Box wr w.heap.size 34 (fArr (dig n)) ∧ Box wr (w.heap.size + 1) 34 (fArr (dig m)) ∧ Box wr (w.heap.size + 2) 34 N ∧ Below w.heap.size w wr ∧ w.heap.size + 4 ≤ wr.heap.size) (fun i _ => 16 - (intOf i).toNat)
      case atStart => exact ⟨0, by omega, rfl, hA, hX, hY, hN, hB, hS⟩
      case round =>
        obtain ⟨wb, rfl⟩ : ∃ wb : World, wb = wr := ⟨_, rfl⟩
        obtain ⟨k, hk, rfl, hA2, hX2, hY2, hN2, hB2, hS2⟩ := hrel
        clear hA hX hY hN hB hS
        by_cases hlk : k < 16
        · have hrl := HR'.out k (i + k)
          have hrw : rowF (dig n) (dig m) i v (k + 1) = upd (rowF (dig n) (dig m) i v k) (i + k) (rowF (dig n) (dig m) i v k (i + k) + dig n i * dig m k) := rfl
          have gx := hX2.cell i (fArr_get _ i hlt)
          have gy := hY2.cell k (fArr_get _ k hlk)
          have bx := HDN.out i
          have by' := HDM.out k
          obtain ⟨u, hu⟩ : ∃ u, u = rowF (dig n) (dig m) i v k := ⟨_, rfl⟩
          rw [← hu] at hA2 hrl hrw
          clear hu
          obtain ⟨q, hq⟩ : ∃ q, q = i + k := ⟨_, rfl⟩
          rw [← hq] at hrw hrl
          have ga := hA2.cell q (hArr_get u q (by omega))
          have fa := hA2.frozen q
          obtain ⟨a, ha⟩ : ∃ a, a = dig n i := ⟨_, rfl⟩
          obtain ⟨b, hb⟩ : ∃ b, b = dig m k := ⟨_, rfl⟩
          obtain ⟨c, hc⟩ : ∃ c, c = u q := ⟨_, rfl⟩
          rw [← ha] at gx bx hrw
          rw [← hb] at gy by' hrw
          rw [← hc] at ga hrl hrw
          have hab : a * b ≤ 65536 * 65536 := Nat.mul_le_mul (by omega) (by omega)
          obtain ⟨p, hp⟩ : ∃ p, p = a * b := ⟨_, rfl⟩
          rw [← hp] at hab hrw
          obtain ⟨r, hr⟩ : ∃ r, r = c + p := ⟨_, rfl⟩
          rw [← hr] at hrw
          have HRW := Lib.hid hrw
          have e1 : (i : Int) + (k : Int) = (q : Int) := by omega
          have e2 : (a : Int) * (b : Int) = (p : Int) := by rw [hp]; simp
          have e2' : IntKind.u64.wrap ((a : Int) * (b : Int)) = (p : Int) := by rw [e2, IntKind.wrap_u64]; omega
          have e2'' : IntKind.u64.wrap (p : Int) = (p : Int) := by rw [IntKind.wrap_u64]; omega
          have e3 : (c : Int) + (p : Int) = (r : Int) := by omega
          have b1 : (0 : Int) ≤ (i : Int) := by omega
          have b2 : (i : Int) < 16 := by omega
          have b3 : (0 : Int) ≤ (k : Int) := by omega
          have b4 : (k : Int) < 16 := by omega
          have b5 : (0 : Int) ≤ (q : Int) := by omega
          have b6 : (q : Int) < 32 := by omega
          have b7 : IntKind.i64.wrap (q : Int) = (q : Int) := by rw [IntKind.wrap_i64]; omega
          have b7' : IntKind.u64.wrap (r : Int) = (r : Int) := by rw [IntKind.wrap_u64]; omega
          have b8 : IntKind.i64.wrap ((i : Int) + (k : Int)) = (q : Int) := by rw [IntKind.wrap_i64]; omega
          clear hrw hq ha hb hc hp hr
          go_upto_region 8 with fail
          go_still_tail 17, (by kernel_rfl)
          change wpList _ _ _ _ _ wb.drew
          go_wp2_with fail
          refine ⟨⟨k + 1, by omega, by go_num, ?_, hX2.far _ _ (by simp), hY2.far _ _ (by simp), hN2.far _ _ (by simp), (hB2.setCell (by simp) _).drew, by simpa using hS2⟩, by simp [intOf]; omega⟩
          have hh := hA2.set q (.int .u64 (r : Nat))
          rw [hArr_set, ← HRW.out] at hh
          exact hh
        · obtain rfl : k = 16 := by omega
          go_wp2_with fail
          refine ⟨⟨i + 1, by omega, by go_num, by rw [HNX.out]; exact hA2, hX2, hY2, hN2, hB2, hS2⟩, by simp [intOf]; omega⟩
    · obtain rfl : i = 16 := by omega
      obtain ⟨V, hV⟩ : ∃ V, V = allF (dig n) (dig m) 16 := ⟨_, rfl⟩
      rw [← hV] at hA HAL HFIT
      clear hV HROW HALI
      rw [show ((16 : Nat) : Int) = 16 from rfl]
      go_upto_region 9 with fail
      go_step
      refine wpList_value rfl (.agg (Array.replicate 16 (Value.int .u64 0))) (by simp [go_sem]; rfl) ?_
      refine wpList_alloc_box rfl 34 rfl (Array.replicate 16 (Value.int .u64 0)) (by intro w; simp [go_sem]; rfl) ?_
      refine wpList_store_box (cells := (Array.replicate 16 (Value.int .u64 0))) rfl 34 _ _ rfl (Box.new _ _ _) (by rfl) (by rfl) rfl (by kernel_rfl) (fArr_zero ▸ fArr_one _) ?_
      intro w3 hO3 hst
      have hA3 := hst.box (hA.alloc _) (by omega)
      have hN3 := hst.box (hN.alloc _) (by omega)
      have hB3 := hst.below w.heap.size w (by omega) (hB.alloc (by omega) _)
      have hS3 : wa.heap.size + 1 ≤ w3.heap.size := by have := hst.size; simp at this; omega
      simp only [Act.put, List.setIfInBounds_toArray, List.set_cons_zero, List.set_cons_succ]
      clear hst hA hX hY hN hB
      have hHO := hS
      clear hS
      generalize wa.heap.size = O at *
      rw [← fArr_zero] at hO3
      generalize (Array.replicate 16 (Value.int .u64 0)) = Z6 at *
      go_wp2_with fail
      go_loopw [9] (fun i wr => ∃ k : Nat, k ≤ 16 ∧ i = .int .i64 k ∧ Box wr O 34 (fArr (mix (foldF V) (fun _ => 0) k)) ∧ Box wr (w.heap.size + 3) 102 (hArr V) ∧ Box wr (w.heap.size + 2) 34 N ∧ Below w.heap.size w wr ∧ O + 1 ≤ wr.heap.size) (fun i _ => 16 - (intOf i).toNat)
      case atStart => exact ⟨0, by omega, rfl, by rw [mix_zero]; exact hO3, hA3, hN3, hB3, hS3⟩
      case round =>
        obtain ⟨wb, rfl⟩ : ∃ wb : World, wb = wr := ⟨_, rfl⟩
        obtain ⟨k, hk, rfl, hO, hA, hN, hB, hS⟩ := hrel
        clear hO3 hA3 hN3 hB3 hS3
        by_cases hlk : k < 16
        · have go' := hO.cell k (fArr_get _ k hlk)
          have fo := hO.frozen k
          rw [mix_here] at go'
          have g1 := hA.cell k (hArr_get V k (by omega))
          have b1' := HAL.out k
          have b2' := HAL.out (k + 16)
          have hs := mix_step (foldF V) (fun _ => 0) k
          have hd : foldF V k = V k + 38 * V (k + 16) := rfl
          obtain ⟨q, hq⟩ : ∃ q, q = k + 16 := ⟨_, rfl⟩
          rw [← hq] at b2' hd
          have g2 := hA.cell q (hArr_get V q (by omega))
          obtain ⟨a, ha⟩ : ∃ a, a = V k := ⟨_, rfl⟩
          obtain ⟨b, hb⟩ : ∃ b, b = V q := ⟨_, rfl⟩
          obtain ⟨r, hr⟩ : ∃ r, r = foldF V k := ⟨_, rfl⟩
          rw [← ha] at g1 b1' hd
          rw [← hb] at g2 b2' hd
          rw [← hr] at hd hs
          obtain ⟨p, hp⟩ : ∃ p, p = 38 * b := ⟨_, rfl⟩
          have e1 : (k : Int) + 16 = (q : Int) := by omega
          have e2 : 38 * (b : Int) = (p : Int) := by omega
          have e2' : IntKind.u64.wrap (38 * (b : Int)) = (p : Int) := by rw [IntKind.wrap_u64]; omega
          have e3 : (a : Int) + (p : Int) = (r : Int) := by omega
          have e4 : IntKind.u64.wrap ((a : Int) + (p : Int)) = (r : Int) := by rw [IntKind.wrap_u64]; omega
          have b3 : (0 : Int) ≤ (k : Int) := by omega
          have b4 : (k : Int) < 16 := by omega
          have b5 : (0 : Int) ≤ (q : Int) := by omega
          have b6 : (q : Int) < 32 := by omega
          have b7 : IntKind.i64.wrap (q : Int) = (q : Int) := by rw [IntKind.wrap_i64]; omega
          have b7' : IntKind.u64.wrap (r : Int) = (r : Int) := by rw [IntKind.wrap_u64]; omega
          have b8 : IntKind.i64.wrap ((k : Int) + 16) = (q : Int) := by rw [IntKind.wrap_i64]; omega
          have b9 : (k : Int) < 32 := by omega
          have HS' := Lib.hid hs
          clear hs hd hq ha hb hr hp
          go_upto_region 13 with fail
          go_still_tail 11, (by kernel_rfl)
          change wpList _ _ _ _ _ wb.drew
          go_wp2_with fail
          refine ⟨⟨k + 1, by omega, by go_num, ?_, hA.far _ _ (by simp; omega), hN.far _ _ (by simp; omega), (hB.setCell (by simp; omega) _).drew, by simpa using hS⟩, by simp [intOf]; omega⟩
          have h1 := hO.set k (.int .u64 (r : Nat))
          rw [fArr_set, HS'.out] at h1
          exact h1
        · obtain rfl : k = 16 := by omega
          obtain ⟨G, hG⟩ : ∃ G, G = fArr (mix (foldF V) (fun _ => 0) 16) := ⟨_, rfl⟩
          rw [← hG] at hO HFIT
          have HGS := Lib.hid (show G.size = 16 by rw [hG]; exact fArr_size _)
          clear hG
          go_upto_region 14 with fail
          go_step
          refine wpList_load_box rfl 34 _ rfl hO (by rfl) Try.underlying34 rfl (by rw [HGS.out]; kernel_rfl) ?_
          refine wpList_enter rfl 62 #[.agg G] (by simp [go_sem, Act.put]) _ _ (HFIT.out _) ?_
          intro w8 hb8
          refine wpList_store_box (cells := R) rfl 34 _ _ rfl (hN.after hb8) (by rfl) (by rfl) (by rw [HNS.out, HRS.out]) (by rw [HRS.out]; kernel_rfl) HR1.out ?_
          intro w9 hR9 hst9
          have hB9 := hst9.below w.heap.size w (by omega) (hB.trans (hb8.mono (by omega)))
          simp only [Act.put, List.setIfInBounds_toArray, List.set_cons_zero, List.set_cons_succ]
          clear hst9 hb8
          go_wp2_with fail
          exact bodyPost_ret (v := .agg R) (box_result rfl _ _ (by rfl) hR9 Try.underlying34 rfl (by rw [HRS.out]; kernel_rfl)) rfl ⟨rfl, hB9⟩
end Go.Proofs.Ytddgkoheihlbdaa

/- field: the document's Mul: what it computes. field: two: the elements of 32 bytes. field: Add: what it computes. field: sum.more: what it computes. field: products: plain numbers. field: Mul: what it computes. field: FieldNumbers: small numbers' sums, differences and products are these numbers': the walk. field: FieldSums: sums, differences and products of any two elements, and of what comes of them, are the document's: the walk. field: power: what it computes. -/
import Derived.Test.YtpkoniebbkkmjaaPnG3
import Derived.Test.YtpkoniebbkkmjaaShelf
import Derived.Laws.Externs
import Derived.Deep.CutRange
namespace Go.Proofs.Ytpkoniebbkkmjaa
open Go.RowKit

/-- the cells of 32 limbs -/
def hArr (f : Nat → Nat) : Array Value := ((List.range 32).map fun j => Value.int .u64 (f j : Nat)).toArray
theorem hArr_get (f : Nat → Nat) (j : Nat) (h : j < 32) : (hArr f)[j]? = some (.int .u64 (f j : Nat)) := by
  simp [hArr, List.getElem?_map, List.getElem?_range h]
theorem hArr_size (f : Nat → Nat) : (hArr f).size = 32 := by simp [hArr]
theorem hArr_set (f : Nat → Nat) (i v : Nat) : (hArr f).setIfInBounds i (.int .u64 (v : Nat)) = hArr (upd f i v) := by
  apply Array.ext
  · simp [hArr]
  · intro j h1 h2
    simp only [hArr, List.size_toArray, List.length_map, List.length_range] at h2
    rw [Array.getElem_setIfInBounds (by simpa [hArr] using h2)]
    by_cases hj : i = j
    · subst hj; simp [hArr, upd]
    · rw [if_neg hj]; simp [hArr, upd, show ¬ j = i from fun e => hj e.symm]
theorem hArr_one (f : Nat → Nat) : (hArr f).all (·.oneCell') = true := all_oneCell_toArray (fun v hv => by simp at hv; obtain ⟨j, _, rfl⟩ := hv; rfl)
theorem hArr_zero : hArr (fun _ => 0) = (Array.replicate 32 (Value.int .u64 0)) := by
  apply Array.ext
  · simp [hArr]
  · intro j h1 h2; simp [hArr]

set_option maxRecDepth 100000 in
set_option maxHeartbeats 4000000 in
theorem refMul_any (n m : Nat) (w : World) (hn : n < 115792089237316195423570985008687907853269984665640564039457584007913129639936) (hm : m < 115792089237316195423570985008687907853269984665640564039457584007913129639936) :
    Calls Try.prog 48 #[.agg (fArr (dig n)), .agg (fArr (dig m))] w fun e w' => e = .returned (.agg (fArr (dig ((n * m) % P25)))) ∧ Below w.heap.size w w' := by
  have hal := allF_le (dig_lt n) (dig_lt m) 16
  have hv : fval (mix (foldF (allF (dig n) (dig m) 16)) (fun _ => 0) 16) 16 % P25 = n * m % P25 := by
    rw [fval_congr (g := foldF (allF (dig n) (dig m) 16)) 16 (fun j hj => by unfold mix; rw [if_pos hj]), foldF_mod, allF_val, fval_of_dig, fval_of_dig]
    simp only [Nat.reducePow]
    rw [Nat.mod_eq_of_lt hn, Nat.mod_eq_of_lt hm]
  have HFIT : Hid (∀ w : World, Calls Try.prog 60 #[.agg (fArr (mix (foldF (allF (dig n) (dig m) 16)) (fun _ => 0) 16))] w fun e w' => e = .returned (.agg (fArr (dig ((n * m) % P25)))) ∧ Below w.heap.size w w') := by
    refine Lib.hid fun w => ?_
    have := fit_any (mix (foldF (allF (dig n) (dig m) 16)) (fun _ => 0) 16) w fun j hj => by
      have h1 := hal j
      have h2 := hal (j + 16)
      unfold mix foldF; rw [if_pos hj]; omega
    rwa [hv] at this
  obtain ⟨R, hR⟩ : ∃ R, R = fArr (dig ((n * m) % P25)) := ⟨_, rfl⟩
  rw [← hR] at HFIT ⊢
  have HRS := Lib.hid (show R.size = 16 by rw [hR]; exact fArr_size _)
  have HR1 := Lib.hid (show R.all (·.oneCell') = true by rw [hR]; exact fArr_one _)
  clear hR
  have HDN := Lib.hid (dig_lt n)
  have HDM := Lib.hid (dig_lt m)
  have HAL := Lib.hid hal
  have HALI := Lib.hid (allF_le (dig_lt n) (dig_lt m))
  have HROW := Lib.hid (fun i k j => rowF_le (dig_lt n) (dig_lt m) i (allF_le (dig_lt n) (dig_lt m) i) k j)
  clear hv hn hm hal
  obtain ⟨X, hX⟩ : ∃ X, X = fArr (dig n) := ⟨_, rfl⟩
  obtain ⟨Y, hY⟩ : ∃ Y, Y = fArr (dig m) := ⟨_, rfl⟩
  rw [← hX, ← hY]
  have HX := Lib.hid hX
  have HY := Lib.hid hY
  clear hX hY
  go_enter Try.func48, Try.ntmps48
  go_upto_region 1 with fail
  have g0 : Box (((w.alloc (.cells X 34)).alloc (.cells Y 34)).alloc (.cells (Array.replicate 16 (Value.int .u64 0)) 34)) w.heap.size 34 X := ((Box.new _ _ _).alloc _).alloc _
  have g1 : Box (((w.alloc (.cells X 34)).alloc (.cells Y 34)).alloc (.cells (Array.replicate 16 (Value.int .u64 0)) 34)) (w.heap.size + 1) 34 Y := by
    have := (Box.new (w.alloc (.cells X 34)) 34 Y).alloc (.cells (Array.replicate 16 (Value.int .u64 0)) 34)
    simp only [World.size_alloc] at this
    exact this
  have g2 : Box (((w.alloc (.cells X 34)).alloc (.cells Y 34)).alloc (.cells (Array.replicate 16 (Value.int .u64 0)) 34)) (w.heap.size + 2) 34 (Array.replicate 16 (Value.int .u64 0)) := by
    have := Box.new ((w.alloc (.cells X 34)).alloc (.cells Y 34)) 34 (Array.replicate 16 (Value.int .u64 0))
    simp only [World.size_alloc] at this
    exact this
  have g3 : Below w.heap.size w (((w.alloc (.cells X 34)).alloc (.cells Y 34)).alloc (.cells (Array.replicate 16 (Value.int .u64 0)) 34)) := (((Below.refl w.heap.size w).alloc (Nat.le_refl _) _).alloc (by simp) _).alloc (by simp; omega) _
  have g4 : (((w.alloc (.cells X 34)).alloc (.cells Y 34)).alloc (.cells (Array.replicate 16 (Value.int .u64 0)) 34)).heap.size = w.heap.size + 3 := by simp
  obtain ⟨N, hN⟩ : ∃ N, N = (Array.replicate 16 (Value.int .u64 0)) := ⟨_, rfl⟩
  have HNS := Lib.hid (show N.size = 16 by rw [hN]; rfl)
  change Code.wp _ _ _ _ (((w.alloc (.cells X 34)).alloc (.cells Y 34)).alloc (.cells (Array.replicate 16 (Value.int .u64 0)) 34))
  generalize (((w.alloc (.cells X 34)).alloc (.cells Y 34)).alloc (.cells (Array.replicate 16 (Value.int .u64 0)) 34)) = W at *
  rw [← hN] at g2
  clear hN
  go_step
  refine wpList_value rfl (.agg (Array.replicate 32 (Value.int .u64 0))) (by simp [go_sem]; rfl) ?_
  refine wpList_alloc_box rfl 97 rfl (Array.replicate 32 (Value.int .u64 0)) (by intro w; simp [go_sem]; rfl) ?_
  refine wpList_store_box (cells := (Array.replicate 32 (Value.int .u64 0))) rfl 97 _ _ rfl (Box.new _ _ _) (by rfl) (by rfl) rfl (by kernel_rfl) (hArr_zero ▸ hArr_one _) ?_
  intro w2 hA2 hst
  have hX2 := hst.box (g0.alloc _) (by omega)
  have hY2 := hst.box (g1.alloc _) (by omega)
  have hN2 := hst.box (g2.alloc _) (by omega)
  have hB2 := hst.below w.heap.size w (by omega) (g3.alloc (by omega) _)
  have hS2 : w.heap.size + 4 ≤ w2.heap.size := by have := hst.size; simp at this; omega
  rw [g4] at hA2
  simp only [Act.put, List.setIfInBounds_toArray, List.set_cons_zero, List.set_cons_succ]
  rw [g4]
  clear hst g0 g1 g2 g3 g4
  rw [HX.out] at hX2
  rw [HY.out] at hY2
  rw [← hArr_zero] at hA2
  generalize (Array.replicate 32 (Value.int .u64 0)) = ZZ at *
  go_wp2_with fail
  go_loopw [6] (fun i wr => ∃ k : Nat, k ≤ 16 ∧ i = .int .i64 k ∧ Box wr (w.heap.size + 3) 97 (hArr (allF (dig n) (dig m) k)) ∧ Box wr w.heap.size 34 (fArr (dig n)) ∧ Box wr (w.heap.size + 1) 34 (fArr (dig m)) ∧ Box wr (w.heap.size + 2) 34 N ∧ Below w.heap.size w wr ∧ w.heap.size + 4 ≤ wr.heap.size) (fun i _ => 16 - (intOf i).toNat)
  case atStart => exact ⟨0, by omega, rfl, hA2, hX2, hY2, hN2, hB2, hS2⟩
  case round =>
    obtain ⟨wa, rfl⟩ : ∃ wa : World, wa = wr := ⟨_, rfl⟩
    obtain ⟨i, hi, rfl, hA, hX, hY, hN, hB, hS⟩ := hrel
    clear hA2 hX2 hY2 hN2 hB2 hS2
    by_cases hlt : i < 16
    · have HNX := Lib.hid (show allF (dig n) (dig m) (i + 1) = rowF (dig n) (dig m) i (allF (dig n) (dig m) i) 16 from rfl)
      have HR' := Lib.hid (fun k j => HROW.out i k j)
      obtain ⟨v, hv⟩ : ∃ v, v = allF (dig n) (dig m) i := ⟨_, rfl⟩
      rw [← hv] at hA HNX HR'
      clear hv
      have b60 : (i : Int) < 16 := by omega
      go_wp2_with fail
      go_loopw [7] (fun i' wr => ∃ k : Nat, k ≤ 16 ∧ i' = .int .i64 k ∧ Box wr (w.heap.size + 3) 97 (hArr (rowF (dig n) (dig m) i v k)) ∧ Box wr w.heap.size 34 (fArr (dig n)) ∧ Box wr (w.heap.size + 1) 34 (fArr (dig m)) ∧ Box wr (w.heap.size + 2) 34 N ∧ Below w.heap.size w wr ∧ w.heap.size + 4 ≤ wr.heap.size) (fun i _ => 16 - (intOf i).toNat)
      case atStart => exact ⟨0, by omega, rfl, hA, hX, hY, hN, hB, hS⟩
      case round =>
        obtain ⟨wb, rfl⟩ : ∃ wb : World, wb = wr := ⟨_, rfl⟩
        obtain ⟨k, hk, rfl, hA2, hX2, hY2, hN2, hB2, hS2⟩ := hrel
        clear hA hX hY hN hB hS
        by_cases hlk : k < 16
        · have hrl := HR'.out k (i + k)
          have hrw : rowF (dig n) (dig m) i v (k + 1) = upd (rowF (dig n) (dig m) i v k) (i + k) (rowF (dig n) (dig m) i v k (i + k) + dig n i * dig m k) := rfl
          have gx := hX2.cell i (fArr_get _ i hlt)
          have gy := hY2.cell k (fArr_get _ k hlk)
          have bx := HDN.out i
          have by' := HDM.out k
          obtain ⟨u, hu⟩ : ∃ u, u = rowF (dig n) (dig m) i v k := ⟨_, rfl⟩
          rw [← hu] at hA2 hrl hrw
          clear hu
          obtain ⟨q, hq⟩ : ∃ q, q = i + k := ⟨_, rfl⟩
          rw [← hq] at hrw hrl
          have ga := hA2.cell q (hArr_get u q (by omega))
          have fa := hA2.frozen q
          obtain ⟨a, ha⟩ : ∃ a, a = dig n i := ⟨_, rfl⟩
          obtain ⟨b, hb⟩ : ∃ b, b = dig m k := ⟨_, rfl⟩
          obtain ⟨c, hc⟩ : ∃ c, c = u q := ⟨_, rfl⟩
          rw [← ha] at gx bx hrw
          rw [← hb] at gy by' hrw
          rw [← hc] at ga hrl hrw
          have hab : a * b ≤ 65536 * 65536 := Nat.mul_le_mul (by omega) (by omega)
          obtain ⟨p, hp⟩ : ∃ p, p = a * b := ⟨_, rfl⟩
          rw [← hp] at hab hrw
          obtain ⟨r, hr⟩ : ∃ r, r = c + p := ⟨_, rfl⟩
          rw [← hr] at hrw
          have HRW := Lib.hid hrw
          have e1 : (i : Int) + (k : Int) = (q : Int) := by omega
          have e2 : (a : Int) * (b : Int) = (p : Int) := by rw [hp]; simp
          have e2' : IntKind.u64.wrap ((a : Int) * (b : Int)) = (p : Int) := by rw [e2, IntKind.wrap_u64]; omega
          have e2'' : IntKind.u64.wrap (p : Int) = (p : Int) := by rw [IntKind.wrap_u64]; omega
          have e3 : (c : Int) + (p : Int) = (r : Int) := by omega
          have b1 : (0 : Int) ≤ (i : Int) := by omega
          have b2 : (i : Int) < 16 := by omega
          have b3 : (0 : Int) ≤ (k : Int) := by omega
          have b4 : (k : Int) < 16 := by omega
          have b5 : (0 : Int) ≤ (q : Int) := by omega
          have b6 : (q : Int) < 32 := by omega
          have b7 : IntKind.i64.wrap (q : Int) = (q : Int) := by rw [IntKind.wrap_i64]; omega
          have b7' : IntKind.u64.wrap (r : Int) = (r : Int) := by rw [IntKind.wrap_u64]; omega
          have b8 : IntKind.i64.wrap ((i : Int) + (k : Int)) = (q : Int) := by rw [IntKind.wrap_i64]; omega
          clear hrw hq ha hb hc hp hr
          go_upto_region 8 with fail
          go_still_tail 17, (by kernel_rfl)
          change wpList _ _ _ _ _ wb.drew
          go_wp2_with fail
          refine ⟨⟨k + 1, by omega, by go_num, ?_, hX2.far _ _ (by simp), hY2.far _ _ (by simp), hN2.far _ _ (by simp), (hB2.setCell (by simp) _).drew, by simpa using hS2⟩, by simp [intOf]; omega⟩
          have hh := hA2.set q (.int .u64 (r : Nat))
          rw [hArr_set, ← HRW.out] at hh
          exact hh
        · obtain rfl : k = 16 := by omega
          go_wp2_with fail
          refine ⟨⟨i + 1, by omega, by go_num, by rw [HNX.out]; exact hA2, hX2, hY2, hN2, hB2, hS2⟩, by simp [intOf]; omega⟩
    · obtain rfl : i = 16 := by omega
      obtain ⟨V, hV⟩ : ∃ V, V = allF (dig n) (dig m) 16 := ⟨_, rfl⟩
      rw [← hV] at hA HAL HFIT
      clear hV HROW HALI
      rw [show ((16 : Nat) : Int) = 16 from rfl]
      go_upto_region 9 with fail
      go_step
      refine wpList_value rfl (.agg (Array.replicate 16 (Value.int .u64 0))) (by simp [go_sem]; rfl) ?_
      refine wpList_alloc_box rfl 34 rfl (Array.replicate 16 (Value.int .u64 0)) (by intro w; simp [go_sem]; rfl) ?_
      refine wpList_store_box (cells := (Array.replicate 16 (Value.int .u64 0))) rfl 34 _ _ rfl (Box.new _ _ _) (by rfl) (by rfl) rfl (by kernel_rfl) (fArr_zero ▸ fArr_one _) ?_
      intro w3 hO3 hst
      have hA3 := hst.box (hA.alloc _) (by omega)
      have hN3 := hst.box (hN.alloc _) (by omega)
      have hB3 := hst.below w.heap.size w (by omega) (hB.alloc (by omega) _)
      have hS3 : wa.heap.size + 1 ≤ w3.heap.size := by have := hst.size; simp at this; omega
      simp only [Act.put, List.setIfInBounds_toArray, List.set_cons_zero, List.set_cons_succ]
      clear hst hA hX hY hN hB
      have hHO := hS
      clear hS
      generalize wa.heap.size = O at *
      rw [← fArr_zero] at hO3
      generalize (Array.replicate 16 (Value.int .u64 0)) = Z6 at *
      go_wp2_with fail
      go_loopw [9] (fun i wr => ∃ k : Nat, k ≤ 16 ∧ i = .int .i64 k ∧ Box wr O 34 (fArr (mix (foldF V) (fun _ => 0) k)) ∧ Box wr (w.heap.size + 3) 97 (hArr V) ∧ Box wr (w.heap.size + 2) 34 N ∧ Below w.heap.size w wr ∧ O + 1 ≤ wr.heap.size) (fun i _ => 16 - (intOf i).toNat)
      case atStart => exact ⟨0, by omega, rfl, by rw [mix_zero]; exact hO3, hA3, hN3, hB3, hS3⟩
      case round =>
        obtain ⟨wb, rfl⟩ : ∃ wb : World, wb = wr := ⟨_, rfl⟩
        obtain ⟨k, hk, rfl, hO, hA, hN, hB, hS⟩ := hrel
        clear hO3 hA3 hN3 hB3 hS3
        by_cases hlk : k < 16
        · have go' := hO.cell k (fArr_get _ k hlk)
          have fo := hO.frozen k
          rw [mix_here] at go'
          have g1 := hA.cell k (hArr_get V k (by omega))
          have b1' := HAL.out k
          have b2' := HAL.out (k + 16)
          have hs := mix_step (foldF V) (fun _ => 0) k
          have hd : foldF V k = V k + 38 * V (k + 16) := rfl
          obtain ⟨q, hq⟩ : ∃ q, q = k + 16 := ⟨_, rfl⟩
          rw [← hq] at b2' hd
          have g2 := hA.cell q (hArr_get V q (by omega))
          obtain ⟨a, ha⟩ : ∃ a, a = V k := ⟨_, rfl⟩
          obtain ⟨b, hb⟩ : ∃ b, b = V q := ⟨_, rfl⟩
          obtain ⟨r, hr⟩ : ∃ r, r = foldF V k := ⟨_, rfl⟩
          rw [← ha] at g1 b1' hd
          rw [← hb] at g2 b2' hd
          rw [← hr] at hd hs
          obtain ⟨p, hp⟩ : ∃ p, p = 38 * b := ⟨_, rfl⟩
          have e1 : (k : Int) + 16 = (q : Int) := by omega
          have e2 : 38 * (b : Int) = (p : Int) := by omega
          have e2' : IntKind.u64.wrap (38 * (b : Int)) = (p : Int) := by rw [IntKind.wrap_u64]; omega
          have e3 : (a : Int) + (p : Int) = (r : Int) := by omega
          have e4 : IntKind.u64.wrap ((a : Int) + (p : Int)) = (r : Int) := by rw [IntKind.wrap_u64]; omega
          have b3 : (0 : Int) ≤ (k : Int) := by omega
          have b4 : (k : Int) < 16 := by omega
          have b5 : (0 : Int) ≤ (q : Int) := by omega
          have b6 : (q : Int) < 32 := by omega
          have b7 : IntKind.i64.wrap (q : Int) = (q : Int) := by rw [IntKind.wrap_i64]; omega
          have b7' : IntKind.u64.wrap (r : Int) = (r : Int) := by rw [IntKind.wrap_u64]; omega
          have b8 : IntKind.i64.wrap ((k : Int) + 16) = (q : Int) := by rw [IntKind.wrap_i64]; omega
          have b9 : (k : Int) < 32 := by omega
          have HS' := Lib.hid hs
          clear hs hd hq ha hb hr hp
          go_upto_region 13 with fail
          go_still_tail 11, (by kernel_rfl)
          change wpList _ _ _ _ _ wb.drew
          go_wp2_with fail
          refine ⟨⟨k + 1, by omega, by go_num, ?_, hA.far _ _ (by simp; omega), hN.far _ _ (by simp; omega), (hB.setCell (by simp; omega) _).drew, by simpa using hS⟩, by simp [intOf]; omega⟩
          have h1 := hO.set k (.int .u64 (r : Nat))
          rw [fArr_set, HS'.out] at h1
          exact h1
        · obtain rfl : k = 16 := by omega
          obtain ⟨G, hG⟩ : ∃ G, G = fArr (mix (foldF V) (fun _ => 0) 16) := ⟨_, rfl⟩
          rw [← hG] at hO HFIT
          have HGS := Lib.hid (show G.size = 16 by rw [hG]; exact fArr_size _)
          clear hG
          go_upto_region 14 with fail
          go_step
          refine wpList_load_box rfl 34 _ rfl hO (by rfl) Try.underlying34 rfl (by rw [HGS.out]; kernel_rfl) ?_
          refine wpList_enter rfl 60 #[.agg G] (by simp [go_sem, Act.put]) _ _ (HFIT.out _) ?_
          intro w8 hb8
          refine wpList_store_box (cells := R) rfl 34 _ _ rfl (hN.after hb8) (by rfl) (by rfl) (by rw [HNS.out, HRS.out]) (by rw [HRS.out]; kernel_rfl) HR1.out ?_
          intro w9 hR9 hst9
          have hB9 := hst9.below w.heap.size w (by omega) (hB.trans (hb8.mono (by omega)))
          simp only [Act.put, List.setIfInBounds_toArray, List.set_cons_zero, List.set_cons_succ]
          clear hst9 hb8
          go_wp2_with fail
          exact bodyPost_ret (v := .agg R) (box_result rfl _ _ (by rfl) hR9 Try.underlying34 rfl (by rw [HRS.out]; kernel_rfl)) rfl ⟨rfl, hB9⟩
end Go.Proofs.Ytpkoniebbkkmjaa
namespace Go.Proofs.Ytpkoniebbkkmjaa
open Go.RowKit

theorem cells_sl {w : World} {g : Nat} {l : List UInt8} (h : Box w g 39 (lCells l).toArray) (hl : l.length = 32) : Sl w (some ⟨g, 0, none⟩) 32 32 l := by
  refine ⟨hl.symm, Nat.le_refl _, by unfold maxLen; omega, (fun h => by cases h), .inr ⟨g, 0, rfl, fun j hj => ?_⟩⟩
  rw [Nat.zero_add]
  refine h.cell j ?_
  simp [lCells, List.getD_eq_getElem?_getD, show j < l.length by omega]

def twoX (l : List UInt8) : L5 := bif decide (leNat l < P25) then L5.of (leNat l) else L5.zero

end Go.Proofs.Ytpkoniebbkkmjaa
namespace Go.Proofs.Ytpkoniebbkkmjaa
open Go.RowKit

set_option maxRecDepth 100000 in
set_option maxHeartbeats 1000000 in
theorem add_any (x y : L5) (w : World) (hx : x.lt 4611686018427387904) (hy : y.lt 4611686018427387904) :
    Calls Try.prog 33 #[x.v, y.v] w fun e w' => e = .returned (x.add y).v ∧ Below w.heap.size w w' := by
  have HX := Lib.hid (at_lt hx)
  have HY := Lib.hid (at_lt hy)
  have HS := Lib.hid (fun w : World => carry_any (L5.fn (addF x y)) w (addF_bd hx hy))
  obtain ⟨R, hR⟩ : ∃ R, R = gArr (x.add y).at := ⟨_, rfl⟩
  have hV : Value.agg R = (x.add y).v := by rw [hR]; rfl
  have HRS := Lib.hid (show R.size = 5 by rw [hR]; exact gArr_size _)
  have HR1 := Lib.hid (show R.all (·.oneCell') = true by rw [hR]; exact gArr_one _)
  rw [← hV]
  change Hid (∀ w : World, Calls _ _ #[(L5.fn (addF x y)).v] w fun e w' => e = .returned (x.add y).v ∧ Below w.heap.size w w') at HS
  rw [← hV, ← mix_fn (addF x y) x.at, ← gArr_fn] at HS
  clear hV hx hy hR
  have hyv : y.v = .agg (gArr y.at) := rfl
  have hxv : x.v = .agg (gArr x.at) := rfl
  rw [hxv, hyv]
  clear hyv hxv
  obtain ⟨X, hX⟩ : ∃ X, X = gArr x.at := ⟨_, rfl⟩
  obtain ⟨Y, hY⟩ : ∃ Y, Y = gArr y.at := ⟨_, rfl⟩
  obtain ⟨N, hN⟩ : ∃ N, N = gArr (fun _ => 0) := ⟨_, rfl⟩
  rw [← hX, ← hY]
  have HXE := Lib.hid hX
  have HYE := Lib.hid hY
  have HXS := Lib.hid (show X.size = 5 by rw [hX]; exact gArr_size _)
  have HYS := Lib.hid (show Y.size = 5 by rw [hY]; exact gArr_size _)
  clear hX hY
  go_enter Try.func33, Try.ntmps33
  go_upto_region 1 with fail
  have g0 : Box (((w.alloc (.cells X 27)).alloc (.cells Y 27)).alloc (.cells #[.int .u64 0, .int .u64 0, .int .u64 0, .int .u64 0, .int .u64 0] 27)) w.heap.size 27 X := ((Box.new _ _ _).alloc _).alloc _
  have g1 : Box (((w.alloc (.cells X 27)).alloc (.cells Y 27)).alloc (.cells #[.int .u64 0, .int .u64 0, .int .u64 0, .int .u64 0, .int .u64 0] 27)) (w.heap.size + 1) 27 Y := by
    have := (Box.new (w.alloc (.cells X 27)) 27 Y).alloc (.cells #[.int .u64 0, .int .u64 0, .int .u64 0, .int .u64 0, .int .u64 0] 27)
    simpa using this
  have g2 : Box (((w.alloc (.cells X 27)).alloc (.cells Y 27)).alloc (.cells #[.int .u64 0, .int .u64 0, .int .u64 0, .int .u64 0, .int .u64 0] 27)) (w.heap.size + 2) 27 N := by
    have := Box.new ((w.alloc (.cells X 27)).alloc (.cells Y 27)) 27 #[.int .u64 0, .int .u64 0, .int .u64 0, .int .u64 0, .int .u64 0]
    rw [hN]
    simp only [World.size_alloc] at this
    exact this
  have g3 : Below w.heap.size w (((w.alloc (.cells X 27)).alloc (.cells Y 27)).alloc (.cells #[.int .u64 0, .int .u64 0, .int .u64 0, .int .u64 0, .int .u64 0] 27)) := (((Below.refl w.heap.size w).alloc (Nat.le_refl _) _).alloc (by simp) _).alloc (by simp; omega) _
  have g4 : w.heap.size + 3 ≤ (((w.alloc (.cells X 27)).alloc (.cells Y 27)).alloc (.cells #[.int .u64 0, .int .u64 0, .int .u64 0, .int .u64 0, .int .u64 0] 27)).heap.size := by simp
  have HNS := Lib.hid (show N.size = 5 by rw [hN]; exact gArr_size _)
  clear hN
  generalize (((w.alloc (.cells X 27)).alloc (.cells Y 27)).alloc (.cells #[.int .u64 0, .int .u64 0, .int .u64 0, .int .u64 0, .int .u64 0] 27)) = W at *
  have hX2 := g0
  have hY2 := g1
  have hN2 := g2
  have hB2 := g3
  have hS2 := g4
  clear g0 g1 g2 g3 g4
  rw [HXE.out] at hX2
  go_wp2_with fail
  go_loopw [6] (fun i wr => ∃ k : Nat, k ≤ 5 ∧ i = .int .i64 k ∧ Box wr w.heap.size 27 (gArr (mix (addF x y) x.at k)) ∧ Box wr (w.heap.size + 1) 27 Y ∧ Box wr (w.heap.size + 2) 27 N ∧ Below w.heap.size w wr ∧ w.heap.size + 3 ≤ wr.heap.size) (fun i _ => 5 - (intOf i).toNat)
  case atStart => exact ⟨0, by omega, rfl, by rw [mix_zero]; exact hX2, hY2, hN2, hB2, hS2⟩
  case round =>
    obtain ⟨wa, rfl⟩ : ∃ wa : World, wa = wr := ⟨_, rfl⟩
    obtain ⟨k, hk, rfl, hX, hZ, hN, hB, hS⟩ := hrel
    clear hX2 hY2 hN2 hB2 hS2
    by_cases hlt : k < 5
    · have gx := hX.cell k (gArr_get _ k hlt)
      rw [mix_here] at gx
      have fx := hX.frozen k
      have hZ' := hZ
      rw [HYE.out] at hZ'
      have gz := hZ'.cell k (gArr_get _ k hlt)
      have bx := HX.out k hlt
      have bz := HY.out k hlt
      have hs := mix_step (addF x y) x.at k
      have hd : addF x y k = x.at k + y.at k := rfl
      obtain ⟨u, hu⟩ : ∃ u, u = x.at k := ⟨_, rfl⟩
      obtain ⟨v, hv⟩ : ∃ v, v = y.at k := ⟨_, rfl⟩
      obtain ⟨r, hr⟩ : ∃ r, r = addF x y k := ⟨_, rfl⟩
      rw [← hu] at gx bx hd
      rw [← hv] at gz bz hd
      rw [← hr] at hd hs
      have HS' := Lib.hid hs
      have b5 : (0 : Int) ≤ (k : Int) := by omega
      have b6 : (k : Int) < 5 := by omega
      have b7 : IntKind.i64.wrap (k : Int) = (k : Int) := by rw [IntKind.wrap_i64]; omega
      have m2 : (u : Int) + (v : Int) = (r : Int) := by omega
      clear hs hu hv hr hZ' hd
      go_upto_region 4 with fail
      go_still_tail 11, (by kernel_rfl)
      change wpList _ _ _ _ _ wa.drew
      go_wp2_with fail
      refine ⟨⟨k + 1, by omega, by go_num, ?_, hZ.far _ _ (by simp), hN.far _ _ (by simp), (hB.setCell (by simp) _).drew, by simpa using hS⟩, by simp [intOf]; omega⟩
      have h1 := hX.set k (.int .u64 (r : Nat))
      rw [gArr_set, HS'.out] at h1
      exact h1
    · obtain rfl : k = 5 := by omega
      obtain ⟨G, hG⟩ : ∃ G, G = gArr (mix (addF x y) x.at 5) := ⟨_, rfl⟩
      rw [← hG] at hX HS
      have HGS := Lib.hid (show G.size = 5 by rw [hG]; exact gArr_size _)
      clear hG
      go_upto_region 6 with fail
      go_step
      refine wpList_load_box rfl 27 _ rfl hX (by rfl) Try.underlying27 rfl (by rw [HGS.out]; kernel_rfl) ?_
      refine wpList_enter rfl 58 #[.agg G] (by simp [go_sem, Act.put]) _ _ (HS.out wa) ?_
      intro w3 hb3
      refine wpList_store_box rfl 27 _ _ rfl (hN.after hb3) (by rfl) (by rfl) (by rw [HNS.out, HRS.out]) (by rw [HRS.out]; kernel_rfl) HR1.out ?_
      intro w4 hR4 hst
      have hB4 := hst.below w.heap.size w (by omega) (hB.trans (hb3.mono (by omega)))
      simp only [Act.put, List.setIfInBounds_toArray, List.set_cons_zero, List.set_cons_succ]
      clear hst hb3 hX hZ hN hB hS
      go_wp2_with fail
      exact bodyPost_ret (v := .agg R) (box_result rfl _ _ (by rfl) hR4 Try.underlying27 rfl (by rw [HRS.out]; kernel_rfl)) rfl ⟨rfl, hB4⟩
end Go.Proofs.Ytpkoniebbkkmjaa
namespace Go.Proofs.Ytpkoniebbkkmjaa
open Go.RowKit

theorem run_Add64 (x y : Nat) (hx : x < 18446744073709551616) (hy : y < 18446744073709551616) (w : World) :
    (callFunc 56 #[.int .u64 x, .int .u64 y, .int .u64 0]).run Try.prog w = .ok (.value (.tuple #[.int .u64 ((x + y) % 18446744073709551616 : Nat), .int .u64 ((x + y) / 18446744073709551616 : Nat)])) w := by
  rw [run_callFunc_extern Try.func56 (by kernel_rfl) (by kernel_rfl) (by kernel_rfl) (show _ = some add64Entry by rfl) _ w,
    run_add64 _ _ _ (by omega) (by omega) (by omega) (by omega)]
  congr 5 <;> omega

/-- a number of 128 bits, as a value -/
abbrev sumV (v : Nat) : Value := .agg #[.int .u64 (v / 18446744073709551616 : Nat), .int .u64 (v % 18446744073709551616 : Nat)]

set_option maxRecDepth 100000 in
set_option maxHeartbeats 1000000 in
theorem more_any (v a b : Nat) (w : World) (ha : a < 18446744073709551616) (hb : b < 18446744073709551616) (hv : v + a * b < 340282366920938463463374607431768211456) :
    Calls Try.prog 55 #[sumV v, .int .u64 a, .int .u64 b] w fun e w' => e = .returned (sumV (v + a * b)) ∧ Below w.heap.size w w' := by
  have HM := Lib.hid (fun w : World => Try.bits_Mul64 a b ha hb w)
  obtain ⟨p, hp⟩ : ∃ p, p = a * b := ⟨_, rfl⟩
  rw [← hp] at hv HM ⊢
  clear hp
  obtain ⟨H, hH⟩ : ∃ H, H = v / 18446744073709551616 := ⟨_, rfl⟩
  obtain ⟨L, hL⟩ : ∃ L, L = v % 18446744073709551616 := ⟨_, rfl⟩
  obtain ⟨h, hh⟩ : ∃ h, h = p / 18446744073709551616 := ⟨_, rfl⟩
  obtain ⟨l, hl⟩ : ∃ l, l = p % 18446744073709551616 := ⟨_, rfl⟩
  rw [← hh, ← hl] at HM
  have hadd := fun w => run_Add64 L l (by omega) (by omega) w
  obtain ⟨r, hr⟩ : ∃ r, r = (L + l) % 18446744073709551616 := ⟨_, rfl⟩
  obtain ⟨c, hc⟩ : ∃ c, c = (L + l) / 18446744073709551616 := ⟨_, rfl⟩
  rw [← hr, ← hc] at hadd
  have e1 : (v + p) % 18446744073709551616 = r := by omega
  have e2 : (v + p) / 18446744073709551616 = H + (h + c) := by omega
  have HE1 := Lib.hid e1
  have HE2 := Lib.hid e2
  have b1 : H + (h + c) < 18446744073709551616 := by omega
  obtain ⟨s, hs⟩ : ∃ s, s = h + c := ⟨_, rfl⟩
  obtain ⟨t, ht⟩ : ∃ t, t = H + s := ⟨_, rfl⟩
  have m1 : (h : Int) + (c : Int) = (s : Int) := by omega
  have m2 : (H : Int) + (s : Int) = (t : Int) := by omega
  have HT := Lib.hid (show (v + p) / 18446744073709551616 = t by omega)
  have b2 : t < 18446744073709551616 := by omega
  unfold sumV
  rw [← hH, ← hL]
  have HADD := Lib.hid hadd
  clear hH hL hh hl hr hc e1 e2 hs ht ha hb hv hadd
  go_enter Try.func55, Try.ntmps55
  go_wp2_with fail
  refine (HM.out _).mono ?_
  rintro e w1 ⟨rfl, rfl⟩
  have hadd := HADD.out
  go_wp2_with fail
  exact bodyPost_ret (v := .agg #[.int .u64 t, .int .u64 r]) (by simp [results, Try.results55, go_sem]) rfl ⟨by rw [HT.out, HE1.out], by
    repeat (first | exact (Below.refl _ _) | refine Below.alloc ?_ (by simp) _ | refine Below.setCell ?_ (by simp) _)⟩
end Go.Proofs.Ytpkoniebbkkmjaa
namespace Go.Proofs.Ytpkoniebbkkmjaa

def ix (i k : Nat) : Nat := if i + k < 5 then i + k else i + k - 5
def fac (y : L5) (i k : Nat) : Nat := if i + k < 5 then y.at k else 19 * y.at k
/-- row i of the products, k of them put to v -/
def rowV (x y : L5) (i : Nat) (v : Nat → Nat) : Nat → Nat → Nat
  | 0 => v
  | k + 1 => upd (rowV x y i v k) (ix i k) (rowV x y i v k (ix i k) + x.at i * fac y i k)
def allV (x y : L5) : Nat → Nat → Nat
  | 0 => fun _ => 0
  | i + 1 => rowV x y i (allV x y i) 5

theorem upd_le {f : Nat → Nat} {i v M : Nat} (h : ∀ j, f j ≤ M) (hv : v ≤ M) : ∀ j, upd f i v j ≤ M := fun j => by
  unfold upd; split
  · exact hv
  · exact h j

theorem prod_le {x y : L5} (hx : ∀ j, j < 5 → x.at j < 4503599627370496) (hy : ∀ j, j < 5 → y.at j < 4503599627370496) (i k : Nat) (hi : i < 5) (hk : k < 5) :
    x.at i * fac y i k ≤ 4503599627370496 * 85568392920039424 ∧ fac y i k < 85568392920039424 := by
  have h1 := hx i hi
  have h2 := hy k hk
  have h3 : fac y i k < 85568392920039424 := by unfold fac; split <;> omega
  exact ⟨Nat.mul_le_mul (by omega) (by omega), h3⟩

theorem rowV_le {x y : L5} (hx : ∀ j, j < 5 → x.at j < 4503599627370496) (hy : ∀ j, j < 5 → y.at j < 4503599627370496) {i : Nat} (hi : i < 5) {v : Nat → Nat} {M : Nat} (hv : ∀ j, v j ≤ M) :
    ∀ k, k ≤ 5 → ∀ j, rowV x y i v k j ≤ M + 385365782469381738054997774434304 * k
  | 0, _ => by simpa [rowV] using hv
  | k + 1, hk => by
    have h1 := rowV_le hx hy hi hv k (by omega)
    have h2 := (prod_le hx hy i k hi (by omega)).1
    refine upd_le (fun j => Nat.le_trans (h1 j) (by omega)) ?_
    have := h1 (ix i k)
    omega
theorem allV_le {x y : L5} (hx : ∀ j, j < 5 → x.at j < 4503599627370496) (hy : ∀ j, j < 5 → y.at j < 4503599627370496) : ∀ i, i ≤ 5 → ∀ j, allV x y i j ≤ 1926828912346908690274988872171520 * i
  | 0, _ => fun j => by simp [allV]
  | i + 1, hi => fun j => by
    have := rowV_le hx hy (i := i) (by omega) (allV_le hx hy i (by omega)) 5 (Nat.le_refl _) j
    rw [allV]; omega

/-- the carry into limb i -/
def cc (v : Nat → Nat) : Nat → Nat | 0 => 0 | i + 1 => (v i + cc v i) / 2251799813685248
def oo (v : Nat → Nat) (i : Nat) : Nat := (v i + cc v i) % 2251799813685248
def lastT (v : Nat → Nat) : Nat := 19 * cc v 5 + oo v 0
def mulO (v : Nat → Nat) : L5 := ⟨lastT v % 2251799813685248, oo v 1 + lastT v / 2251799813685248, oo v 2, oo v 3, oo v 4⟩
def L5.mul (x y : L5) : L5 := (mulO (allV x y 5)).cry

theorem cc_le {v : Nat → Nat} (h : ∀ j, v j ≤ 9634144561734543451374944360857600) : ∀ i, i ≤ 5 → cc v i ≤ 4278419646001975000
  | 0, _ => by simp [cc]
  | i + 1, hi => by
    have h1 := cc_le h i (by omega)
    have h2 := h i
    rw [cc]; omega
theorem oo_lt (v : Nat → Nat) (i : Nat) : oo v i < 2251799813685248 := Nat.mod_lt _ (by omega)
theorem mulO_lt {v : Nat → Nat} (h : ∀ j, v j ≤ 9634144561734543451374944360857600) : (mulO v).lt 9223372036854775808 := by
  have h5 := cc_le h 5 (Nat.le_refl _)
  have h0 := oo_lt v 0
  have h1 := oo_lt v 1
  have h2 := oo_lt v 2
  have h3 := oo_lt v 3
  have h4 := oo_lt v 4
  refine ⟨?_, ?_, ?_, ?_, ?_⟩ <;> (simp only [mulO, lastT]; omega)
theorem mulO_val (v : Nat → Nat) : (mulO v).val + P25 * cc v 5 = v 0 + 2251799813685248 * v 1 + 5070602400912917605986812821504 * v 2 + 11417981541647679048466287755595961091061972992 * v 3 + 25711008708143844408671393477458601640355247900524685364822016 * v 4 := by
  have c0 : cc v 0 = 0 := rfl
  have c1 : cc v 1 = (v 0 + cc v 0) / 2251799813685248 := rfl
  have c2 : cc v 2 = (v 1 + cc v 1) / 2251799813685248 := rfl
  have c3 : cc v 3 = (v 2 + cc v 2) / 2251799813685248 := rfl
  have c4 : cc v 4 = (v 3 + cc v 3) / 2251799813685248 := rfl
  have c5 : cc v 5 = (v 4 + cc v 4) / 2251799813685248 := rfl
  have o0 : oo v 0 = (v 0 + cc v 0) % 2251799813685248 := rfl
  have o1 : oo v 1 = (v 1 + cc v 1) % 2251799813685248 := rfl
  have o2 : oo v 2 = (v 2 + cc v 2) % 2251799813685248 := rfl
  have o3 : oo v 3 = (v 3 + cc v 3) % 2251799813685248 := rfl
  have o4 : oo v 4 = (v 4 + cc v 4) % 2251799813685248 := rfl
  simp only [mulO, lastT, L5.val, P25]
  generalize cc v 0 = a0 at *
  generalize cc v 1 = a1 at *
  generalize cc v 2 = a2 at *
  generalize cc v 3 = a3 at *
  generalize cc v 4 = a4 at *
  generalize cc v 5 = a5 at *
  generalize oo v 0 = b0 at *
  generalize oo v 1 = b1 at *
  generalize oo v 2 = b2 at *
  generalize oo v 3 = b3 at *
  generalize oo v 4 = b4 at *
  generalize v 0 = v0 at *
  generalize v 1 = v1 at *
  generalize v 2 = v2 at *
  generalize v 3 = v3 at *
  generalize v 4 = v4 at *
  omega

theorem all0 (x y : L5) : allV x y 5 0 = x.a * y.a + 19 * (x.b * y.e) + 19 * (x.c * y.d) + 19 * (x.d * y.c) + 19 * (x.e * y.b) := by
  simp [allV, rowV, upd, ix, fac, L5.at, Nat.mul_left_comm]
theorem all1 (x y : L5) : allV x y 5 1 = x.a * y.b + x.b * y.a + 19 * (x.c * y.e) + 19 * (x.d * y.d) + 19 * (x.e * y.c) := by
  simp [allV, rowV, upd, ix, fac, L5.at, Nat.mul_left_comm]
theorem all2 (x y : L5) : allV x y 5 2 = x.a * y.c + x.b * y.b + x.c * y.a + 19 * (x.d * y.e) + 19 * (x.e * y.d) := by
  simp [allV, rowV, upd, ix, fac, L5.at, Nat.mul_left_comm]
theorem all3 (x y : L5) : allV x y 5 3 = x.a * y.d + x.b * y.c + x.c * y.b + x.d * y.a + 19 * (x.e * y.e) := by
  simp [allV, rowV, upd, ix, fac, L5.at, Nat.mul_left_comm]
theorem all4 (x y : L5) : allV x y 5 4 = x.a * y.e + x.b * y.d + x.c * y.c + x.d * y.b + x.e * y.a := by
  simp [allV, rowV, upd, ix, fac, L5.at]

theorem mul_val (x y : L5) : ∃ K, (mulO (allV x y 5)).val + P25 * cc (allV x y 5) 5 + P25 * K = x.val * y.val := by
  have h := mulO_val (allV x y 5)
  rw [h, all0, all1, all2, all3, all4]
  obtain ⟨a, b, c, d, e⟩ := x
  obtain ⟨a', b', c', d', e'⟩ := y
  refine ⟨b * e' + c * d' + d * c' + e * b' + 2251799813685248 * (c * e' + d * d' + e * c') + 5070602400912917605986812821504 * (d * e' + e * d') + 11417981541647679048466287755595961091061972992 * (e * e'), ?_⟩
  simp only [L5.val, P25]
  grind
end Go.Proofs.Ytpkoniebbkkmjaa
namespace Go.Proofs.Ytpkoniebbkkmjaa
open Go.RowKit

/-- half j of the numbers of 128 bits -/
def hl (v : Nat → Nat) (j : Nat) : Nat := if j % 2 = 0 then v (j / 2) / 18446744073709551616 else v (j / 2) % 18446744073709551616
/-- the cells of five numbers of 128 bits -/
def sArr (v : Nat → Nat) : Array Value := ((List.range 10).map fun j => Value.int .u64 (hl v j : Nat)).toArray
theorem hl_hi (v : Nat → Nat) (q : Nat) : hl v (q * 2) = v q / 18446744073709551616 := by
  unfold hl; rw [if_pos (by omega), Nat.mul_div_cancel _ (by omega)]
theorem hl_lo (v : Nat → Nat) (q : Nat) : hl v (q * 2 + 1) = v q % 18446744073709551616 := by
  unfold hl; rw [if_neg (by omega), show (q * 2 + 1) / 2 = q by omega]
theorem sArr_get (v : Nat → Nat) (j : Nat) (h : j < 10) : (sArr v)[j]? = some (.int .u64 (hl v j : Nat)) := by
  simp [sArr, List.getElem?_map, List.getElem?_range h]
theorem sArr_size (v : Nat → Nat) : (sArr v).size = 10 := by simp [sArr]
theorem sArr_zero : sArr (fun _ => 0) = #[.int .u64 0, .int .u64 0, .int .u64 0, .int .u64 0, .int .u64 0, .int .u64 0, .int .u64 0, .int .u64 0, .int .u64 0, .int .u64 0] := rfl
theorem sArr_set (v : Nat → Nat) (q u : Nat) : ((sArr v).setIfInBounds (q * 2) (.int .u64 (u / 18446744073709551616 : Nat))).setIfInBounds (q * 2 + 1) (.int .u64 (u % 18446744073709551616 : Nat)) = sArr (upd v q u) := by
  apply Array.ext
  · simp [sArr]
  · intro j h1 h2
    simp only [sArr, List.size_toArray, List.length_map, List.length_range] at h2
    rw [Array.getElem_setIfInBounds (by simpa [sArr] using h2), Array.getElem_setIfInBounds (by simpa [sArr] using h2)]
    simp only [sArr, List.getElem_toArray, List.getElem_map, List.getElem_range]
    unfold hl upd
    by_cases e1 : q * 2 + 1 = j
    · subst e1
      rw [if_pos rfl, if_neg (by omega), if_pos (by omega)]
    · rw [if_neg e1]
      by_cases e2 : q * 2 = j
      · subst e2
        rw [if_pos rfl, if_pos (by omega), if_pos (by omega)]
      · rw [if_neg e2]
        have : ¬ j / 2 = q := by omega
        simp only [this, if_false]
theorem sArr_extract (v : Nat → Nat) (q : Nat) (h : q < 5) : (sArr v).extract (q * 2) (q * 2 + 2) = #[.int .u64 (v q / 18446744073709551616 : Nat), .int .u64 (v q % 18446744073709551616 : Nat)] := by
  apply Array.ext
  · simp [sArr]; omega
  · intro j h1 h2
    have h2' : j < 2 := h2
    rw [Array.getElem_extract]
    simp only [sArr, List.getElem_toArray, List.getElem_map, List.getElem_range]
    match j, h2' with
    | 0, _ => rw [Nat.add_zero, hl_hi]; rfl
    | 1, _ => rw [hl_lo]; rfl

theorem run_index_sum {P : Program} {w : World} (t e : TypeId) (v : Nat → Nat) (q : Nat) (h : P.underlying t = some (.array 5 e)) (hq : q < 5) (hz : (sizeOf e).run P w = .ok 2 w) (hp : (isAgg e).run P w = .ok true w) :
    (Instr.index t (.agg (sArr v)) (.int .i64 q)).run P w = .ok (sumV (v q)) w := by
  have he := sArr_extract v q hq
  simp [Instr.index, run_underlying h, asIntOf, go_sem, hq, hz, hp, part, he]

set_option maxRecDepth 100000 in
set_option maxHeartbeats 4000000 in
theorem mul_any (x y : L5) (w : World) (hx : ∀ j, j < 5 → x.at j < 4503599627370496) (hy : ∀ j, j < 5 → y.at j < 4503599627370496) :
    Calls Try.prog 30 #[x.v, y.v] w fun e w' => e = .returned (x.mul y).v ∧ Below w.heap.size w w' := by
  have HX := Lib.hid hx
  have HY := Lib.hid hy
  have HRL := Lib.hid (fun (i k : Nat) (hi : i < 5) (hk : k ≤ 5) => rowV_le hx hy hi (allV_le hx hy i (by omega)) k hk)
  have HP := Lib.hid (prod_le hx hy)
  have hmo := mulO_lt (v := allV x y 5) (allV_le hx hy 5 (Nat.le_refl _))
  have HCC := Lib.hid (cc_le (v := allV x y 5) (allV_le hx hy 5 (Nat.le_refl _)))
  have HAL := Lib.hid (allV_le hx hy 5 (Nat.le_refl _))
  have HCAR := Lib.hid (fun w : World => carry_any (mulO (allV x y 5)) w hmo)
  change Hid (∀ w : World, Calls _ _ #[(mulO (allV x y 5)).v] w fun e w' => e = .returned (x.mul y).v ∧ Below w.heap.size w w') at HCAR
  obtain ⟨R, hR⟩ : ∃ R, R = gArr (x.mul y).at := ⟨_, rfl⟩
  have hV : Value.agg R = (x.mul y).v := by rw [hR]; rfl
  have HRS := Lib.hid (show R.size = 5 by rw [hR]; exact gArr_size _)
  have HR1 := Lib.hid (show R.all (·.oneCell') = true by rw [hR]; exact gArr_one _)
  rw [← hV] at HCAR ⊢
  clear hR hV hx hy hmo
  have hxv : x.v = .agg (gArr x.at) := rfl
  have hyv : y.v = .agg (gArr y.at) := rfl
  rw [hxv, hyv]
  clear hxv hyv
  have HIX : Hid (∀ (i : Nat) (w : World), i < 5 → (Instr.index 25 (.agg (gArr x.at)) (.int .i64 i)).run Try.prog w = .ok (.int .u64 (x.at i : Nat)) w) :=
    Lib.hid fun i w hi => run_index_array _ 24 5 _ .i64 i _ Try.underlying25 hi (gArr_get _ i hi) (by simp [go_sem]) (by simp [go_sem])
  have HIY : Hid (∀ (i : Nat) (w : World), i < 5 → (Instr.index 25 (.agg (gArr y.at)) (.int .i64 i)).run Try.prog w = .ok (.int .u64 (y.at i : Nat)) w) :=
    Lib.hid fun i w hi => run_index_array _ 24 5 _ .i64 i _ Try.underlying25 hi (gArr_get _ i hi) (by simp [go_sem]) (by simp [go_sem])
  obtain ⟨X, hX⟩ : ∃ X, X = gArr x.at := ⟨_, rfl⟩
  obtain ⟨Y, hY⟩ : ∃ Y, Y = gArr y.at := ⟨_, rfl⟩
  obtain ⟨N, hN⟩ : ∃ N, N = gArr (fun _ => 0) := ⟨_, rfl⟩
  rw [← hX] at HIX ⊢
  rw [← hY] at HIY ⊢
  have HXS := Lib.hid (show X.size = 5 by rw [hX]; exact gArr_size _)
  have HYS := Lib.hid (show Y.size = 5 by rw [hY]; exact gArr_size _)
  have HNS := Lib.hid (show N.size = 5 by rw [hN]; exact gArr_size _)
  clear hX hY
  go_enter Try.func30, Try.ntmps30
  go_upto_region 2 with fail
  have g0 : Box ((((w.alloc (.cells X 27)).alloc (.cells Y 27)).alloc (.cells #[.int .u64 0, .int .u64 0, .int .u64 0, .int .u64 0, .int .u64 0] 27)).alloc (.cells #[.int .u64 0, .int .u64 0, .int .u64 0, .int .u64 0, .int .u64 0, .int .u64 0, .int .u64 0, .int .u64 0, .int .u64 0, .int .u64 0] 90)) w.heap.size 27 X := (((Box.new _ _ _).alloc _).alloc _).alloc _
  have g1 : Box ((((w.alloc (.cells X 27)).alloc (.cells Y 27)).alloc (.cells #[.int .u64 0, .int .u64 0, .int .u64 0, .int .u64 0, .int .u64 0] 27)).alloc (.cells #[.int .u64 0, .int .u64 0, .int .u64 0, .int .u64 0, .int .u64 0, .int .u64 0, .int .u64 0, .int .u64 0, .int .u64 0, .int .u64 0] 90)) (w.heap.size + 1) 27 Y := by
    have := ((Box.new (w.alloc (.cells X 27)) 27 Y).alloc (.cells #[.int .u64 0, .int .u64 0, .int .u64 0, .int .u64 0, .int .u64 0] 27)).alloc (.cells #[.int .u64 0, .int .u64 0, .int .u64 0, .int .u64 0, .int .u64 0, .int .u64 0, .int .u64 0, .int .u64 0, .int .u64 0, .int .u64 0] 90)
    simp only [World.size_alloc] at this
    exact this
  have g2 : Box ((((w.alloc (.cells X 27)).alloc (.cells Y 27)).alloc (.cells #[.int .u64 0, .int .u64 0, .int .u64 0, .int .u64 0, .int .u64 0] 27)).alloc (.cells #[.int .u64 0, .int .u64 0, .int .u64 0, .int .u64 0, .int .u64 0, .int .u64 0, .int .u64 0, .int .u64 0, .int .u64 0, .int .u64 0] 90)) (w.heap.size + 2) 27 N := by
    have := (Box.new ((w.alloc (.cells X 27)).alloc (.cells Y 27)) 27 #[.int .u64 0, .int .u64 0, .int .u64 0, .int .u64 0, .int .u64 0]).alloc (.cells #[.int .u64 0, .int .u64 0, .int .u64 0, .int .u64 0, .int .u64 0, .int .u64 0, .int .u64 0, .int .u64 0, .int .u64 0, .int .u64 0] 90)
    simp only [World.size_alloc] at this
    rw [hN]
    exact this
  have g3 : Box ((((w.alloc (.cells X 27)).alloc (.cells Y 27)).alloc (.cells #[.int .u64 0, .int .u64 0, .int .u64 0, .int .u64 0, .int .u64 0] 27)).alloc (.cells #[.int .u64 0, .int .u64 0, .int .u64 0, .int .u64 0, .int .u64 0, .int .u64 0, .int .u64 0, .int .u64 0, .int .u64 0, .int .u64 0] 90)) (w.heap.size + 3) 90 (sArr (fun _ => 0)) := by
    have := Box.new (((w.alloc (.cells X 27)).alloc (.cells Y 27)).alloc (.cells #[.int .u64 0, .int .u64 0, .int .u64 0, .int .u64 0, .int .u64 0] 27)) 90 (sArr (fun _ => 0))
    simp only [World.size_alloc] at this
    exact this
  have g4 : Below w.heap.size w ((((w.alloc (.cells X 27)).alloc (.cells Y 27)).alloc (.cells #[.int .u64 0, .int .u64 0, .int .u64 0, .int .u64 0, .int .u64 0] 27)).alloc (.cells #[.int .u64 0, .int .u64 0, .int .u64 0, .int .u64 0, .int .u64 0, .int .u64 0, .int .u64 0, .int .u64 0, .int .u64 0, .int .u64 0] 90)) := ((((Below.refl w.heap.size w).alloc (Nat.le_refl _) _).alloc (by simp) _).alloc (by simp; omega) _).alloc (by simp; omega) _
  have g5 : w.heap.size + 4 ≤ ((((w.alloc (.cells X 27)).alloc (.cells Y 27)).alloc (.cells #[.int .u64 0, .int .u64 0, .int .u64 0, .int .u64 0, .int .u64 0] 27)).alloc (.cells #[.int .u64 0, .int .u64 0, .int .u64 0, .int .u64 0, .int .u64 0, .int .u64 0, .int .u64 0, .int .u64 0, .int .u64 0, .int .u64 0] 90)).heap.size := by simp
  clear hN
  generalize ((((w.alloc (.cells X 27)).alloc (.cells Y 27)).alloc (.cells #[.int .u64 0, .int .u64 0, .int .u64 0, .int .u64 0, .int .u64 0] 27)).alloc (.cells #[.int .u64 0, .int .u64 0, .int .u64 0, .int .u64 0, .int .u64 0, .int .u64 0, .int .u64 0, .int .u64 0, .int .u64 0, .int .u64 0] 90)) = W at *
  go_step
  refine wpList_value rfl (.pointer (some ⟨w.heap.size, 0, none⟩)) (by simp [go_sem]) ?_
  refine wpList_load_box rfl 25 (.tmp 20) rfl g0 (by simp [go_sem, Act.put]) Try.underlying25 rfl (by rw [HXS.out]; kernel_rfl) ?_
  refine wpList_value rfl (.int .i64 0) (by simp [go_sem]) ?_
  simp only [Act.put, List.setIfInBounds_toArray, List.set_cons_zero, List.set_cons_succ]
  go_wp2_with fail
  go_loopw [22] (fun i wr => ∃ k : Nat, k ≤ 5 ∧ i = .int .i64 k ∧ Box wr (w.heap.size + 3) 90 (sArr (allV x y k)) ∧ Box wr (w.heap.size + 1) 27 Y ∧ Box wr (w.heap.size + 2) 27 N ∧ Below w.heap.size w wr ∧ w.heap.size + 4 ≤ wr.heap.size) (fun i _ => 5 - (intOf i).toNat)
  case atStart => exact ⟨0, by omega, rfl, g3, g1, g2, g4, g5⟩
  case round =>
    obtain ⟨wa, rfl⟩ : ∃ wa : World, wa = wr := ⟨_, rfl⟩
    obtain ⟨i, hi, rfl, hA, hY, hN, hB, hS⟩ := hrel
    clear g0 g1 g2 g3 g4 g5
    by_cases hlt : i < 5
    · have hix := fun w => HIX.out i w hlt
      have hxi := HX.out i hlt
      have HNX := Lib.hid (show allV x y (i + 1) = rowV x y i (allV x y i) 5 from rfl)
      obtain ⟨v, hv⟩ : ∃ v, v = allV x y i := ⟨_, rfl⟩
      have HRL' := Lib.hid (fun k hk => HRL.out i k hlt hk)
      rw [← hv] at hA HNX HRL'
      clear hv
      have HPR := Lib.hid (fun k hk => HP.out i k hlt hk)
      have HFA : Hid (∀ k, fac y i k = if i + k < 5 then y.at k else 19 * y.at k) := Lib.hid fun k => rfl
      have HRW : Hid (∀ k, rowV x y i v (k + 1) = upd (rowV x y i v k) (ix i k) (rowV x y i v k (ix i k) + x.at i * fac y i k)) := Lib.hid fun k => rfl
      obtain ⟨a, ha⟩ : ∃ a, a = x.at i := ⟨_, rfl⟩
      rw [← ha] at hix hxi HPR HRW
      clear ha
      have b5 : (0 : Int) ≤ (i : Int) := by omega
      have b6 : (i : Int) < 5 := by omega
      go_upto_region 5 with fail
      clear hix
      go_step
      refine wpList_value rfl (.pointer (some ⟨w.heap.size + 1, 0, none⟩)) (by simp [go_sem]) ?_
      refine wpList_load_box rfl 25 (.tmp 26) rfl hY (by simp [go_sem, Act.put]) Try.underlying25 rfl (by rw [HYS.out]; kernel_rfl) ?_
      refine wpList_value rfl (.int .i64 0) (by simp [go_sem]) ?_
      simp only [Act.put, List.setIfInBounds_toArray, List.set_cons_zero, List.set_cons_succ]
      go_wp2_with fail
      go_loopw [28] (fun i' wr => ∃ k : Nat, k ≤ 5 ∧ i' = .int .i64 k ∧ Box wr (w.heap.size + 3) 90 (sArr (rowV x y i v k)) ∧ Box wr (w.heap.size + 1) 27 Y ∧ Box wr (w.heap.size + 2) 27 N ∧ Below w.heap.size w wr ∧ w.heap.size + 4 ≤ wr.heap.size) (fun i _ => 5 - (intOf i).toNat)
      case atStart => exact ⟨0, by omega, rfl, hA, hY, hN, hB, hS⟩
      case round =>
        obtain ⟨wb, rfl⟩ : ∃ wb : World, wb = wr := ⟨_, rfl⟩
        obtain ⟨k, hk, rfl, hA2, hY2, hN2, hB2, hS2⟩ := hrel
        clear hA hY hN hB hS
        by_cases hlk : k < 5
        · have hiy := fun w => HIY.out k w hlk
          have hyk := HY.out k hlk
          have hfa := HFA.out k
          obtain ⟨hpr, hfl⟩ := HPR.out k hlk
          have hrl := HRL'.out k hk
          have hrw := HRW.out k
          obtain ⟨b, hb⟩ : ∃ b, b = y.at k := ⟨_, rfl⟩
          rw [← hb] at hiy hyk hfa
          clear hb
          obtain ⟨f, hf⟩ : ∃ f, f = fac y i k := ⟨_, rfl⟩
          rw [← hf] at hfa hpr hfl hrw
          clear hf
          obtain ⟨u, hu⟩ : ∃ u, u = rowV x y i v k := ⟨_, rfl⟩
          rw [← hu] at hA2 hrl hrw
          have HU := Lib.hid hu
          clear hu
          have b7 : (0 : Int) ≤ (k : Int) := by omega
          have b8 : (k : Int) < 5 := by omega
          obtain ⟨q, hq⟩ : ∃ q, q = ix i k := ⟨_, rfl⟩
          rw [← hq] at hrw
          have hq5 : q < 5 := by rw [hq]; unfold ix; split <;> omega
          have hrq := hrl q
          have HM := Lib.hid (fun w : World => more_any (u q) a f w (by omega) (by omega) (by omega))
          have HS5 := Lib.hid (sArr_set u q (u q + a * f))
          have c0 := sArr_get u (q * 2) (by omega)
          have c1 := sArr_get u (q * 2 + 1) (by omega)
          rw [hl_hi] at c0
          rw [hl_lo] at c1
          have k0 := hA2.cell _ c0
          have k1 := hA2.cell _ c1
          have HC0 := Lib.hid c0
          have HC1 := Lib.hid c1
          unfold sumV at HM
          obtain ⟨h, hh⟩ : ∃ h, h = u q / 18446744073709551616 := ⟨_, rfl⟩
          obtain ⟨l, hl⟩ : ∃ l, l = u q % 18446744073709551616 := ⟨_, rfl⟩
          obtain ⟨h', hh'⟩ : ∃ h', h' = (u q + a * f) / 18446744073709551616 := ⟨_, rfl⟩
          obtain ⟨l', hl'⟩ : ∃ l', l' = (u q + a * f) % 18446744073709551616 := ⟨_, rfl⟩
          rw [← hh, ← hl, ← hh', ← hl'] at HM
          rw [← hh', ← hl'] at HS5
          rw [← hh] at k0 HC0
          rw [← hl] at k1 HC1
          have HRW2 := Lib.hid hrw
          clear c0 c1 hh hl hh' hl' hrl hrw hrq hpr
          by_cases hik : i + k < 5
          · rw [if_pos hik] at hfa
            have hqe : q = i + k := by rw [hq]; unfold ix; rw [if_pos hik]
            subst hfa
            have e1 : (i : Int) + (k : Int) = (q : Int) := by omega
            have b9 : (0 : Int) ≤ (q : Int) := by omega
            have b10 : (q : Int) < 5 := by omega
            clear hq hqe hik
            go_wp2_with fail
            refine (HM.out _).mono ?_
            rintro e w1 ⟨rfl, hb1⟩
            have hA3 := hA2.after hb1
            have hY3 := hY2.after hb1
            have hN3 := hN2.after hb1
            have hB3 := hB2.trans (hb1.mono (by omega))
            have hS3 := Nat.le_trans hS2 hb1.size
            have k2 := hA3.cell _ HC0.out
            have k3 := hA3.cell _ HC1.out
            have k4 := hA3.frozen (q * 2)
            have k5 := hA3.frozen (q * 2 + 1)
            clear hiy hA2 hY2 hN2 hB2 hS2 hb1 k0 k1
            go_wp2_with fail
            refine ⟨⟨k + 1, by omega, by go_num, ?_, (hY3.far _ _ (by simp)).far _ _ (by simp), (hN3.far _ _ (by simp)).far _ _ (by simp), (hB3.setCell (by simp; omega) _).setCell (by simp; omega) _, by simpa using hS3⟩, by simp [intOf]; omega⟩
            have hh := (hA3.set (q * 2) (.int .u64 (h' : Nat))).set (q * 2 + 1) (.int .u64 (l' : Nat))
            rw [HS5.out, ← HRW2.out] at hh
            exact hh
          · rw [if_neg hik] at hfa
            have hqe : q = i + k - 5 := by rw [hq]; unfold ix; rw [if_neg hik]
            have e1 : (i : Int) + (k : Int) - 5 = (q : Int) := by omega
            have e2 : 19 * (b : Int) = (f : Int) := by omega
            have e3 : (5 : Int) ≤ (i : Int) + (k : Int) := by omega
            have b9 : (0 : Int) ≤ (q : Int) := by omega
            have b10 : (q : Int) < 5 := by omega
            clear hq hqe hfa
            go_wp2_with fail
            refine (HM.out _).mono ?_
            rintro e w1 ⟨rfl, hb1⟩
            have hA3 := hA2.after hb1
            have hY3 := hY2.after hb1
            have hN3 := hN2.after hb1
            have hB3 := hB2.trans (hb1.mono (by omega))
            have hS3 := Nat.le_trans hS2 hb1.size
            have k2 := hA3.cell _ HC0.out
            have k3 := hA3.cell _ HC1.out
            have k4 := hA3.frozen (q * 2)
            have k5 := hA3.frozen (q * 2 + 1)
            clear hiy hA2 hY2 hN2 hB2 hS2 hb1 k0 k1
            go_wp2_with fail
            refine ⟨⟨k + 1, by omega, by go_num, ?_, (hY3.far _ _ (by simp)).far _ _ (by simp), (hN3.far _ _ (by simp)).far _ _ (by simp), (hB3.setCell (by simp; omega) _).setCell (by simp; omega) _, by simpa using hS3⟩, by simp [intOf]; omega⟩
            have hh := (hA3.set (q * 2) (.int .u64 (h' : Nat))).set (q * 2 + 1) (.int .u64 (l' : Nat))
            rw [HS5.out, ← HRW2.out] at hh
            exact hh
        · obtain rfl : k = 5 := by omega
          go_wp2_with fail
          refine ⟨⟨i + 1, by omega, by go_num, by rw [HNX.out]; exact hA2, hY2, hN2, hB2, hS2⟩, by simp [intOf]; omega⟩
    · obtain rfl : i = 5 := by omega
      obtain ⟨V, hV⟩ : ∃ V, V = allV x y 5 := ⟨_, rfl⟩
      rw [← hV] at hA HCC HAL HCAR
      clear hV HRL HP HIX HIY HX HY hY
      have HIS : Hid (∀ (k : Nat) (w : World), k < 5 → (Instr.index 90 (.agg (sArr V)) (.int .i64 k)).run Try.prog w = .ok (sumV (V k)) w) :=
        Lib.hid fun k w hk => run_index_sum 90 89 V k Try.underlying90 hk (by simp [go_sem]) (by simp [go_sem])
      have HSS := Lib.hid (sArr_size V)
      obtain ⟨S, hS'⟩ : ∃ S, S = sArr V := ⟨_, rfl⟩
      rw [← hS'] at hA HIS HSS
      clear hS'
      go_upto_region 13 with fail
      go_step
      refine wpList_alloc_box rfl 27 rfl (gArr (fun _ => 0)) (by intro w; simp [go_sem]; rfl) ?_
      simp only [Act.put, List.setIfInBounds_toArray, List.set_cons_zero, List.set_cons_succ]
      have hA1 := hA.alloc (.cells (gArr (fun _ => 0)) 27)
      have hO1 := Box.new wa 27 (gArr (fun _ => 0))
      have hN1 := hN.alloc (.cells (gArr (fun _ => 0)) 27)
      have hB1 := hB.alloc (by omega) (.cells (gArr (fun _ => 0)) 27)
      have hS1 : wa.heap.size + 1 ≤ (wa.alloc (.cells (gArr (fun _ => 0)) 27)).heap.size := by simp
      generalize wa.alloc (.cells (gArr (fun _ => 0)) 27) = w1 at *
      clear hA hN hB
      have hHO := hS
      clear hS
      generalize wa.heap.size = O at *
      go_upto_region 15 with fail
      go_step
      refine wpList_load_box rfl 90 (.tmp 5) rfl hA1 (by simp [go_sem]) Try.underlying90 rfl (by rw [HSS.out]; kernel_rfl) ?_
      simp only [Act.put, List.setIfInBounds_toArray, List.set_cons_zero, List.set_cons_succ]
      clear hA1
      go_wp2_with fail
      go_loopw [11, 66] (fun c i wr => ∃ k : Nat, k ≤ 5 ∧ i = .int .i64 k ∧ c = .int .u64 (cc V k : Nat) ∧ Box wr O 27 (gArr (mix (oo V) (fun _ => 0) k)) ∧ Box wr (w.heap.size + 2) 27 N ∧ Below w.heap.size w wr ∧ O + 1 ≤ wr.heap.size) (fun _ i _ => 5 - (intOf i).toNat)
      case atStart => exact ⟨0, by omega, rfl, rfl, by rw [mix_zero]; exact hO1, hN1, hB1, hS1⟩
      case round =>
        obtain ⟨wb, rfl⟩ : ∃ wb : World, wb = wr := ⟨_, rfl⟩
        obtain ⟨k, hk, rfl, rfl, hX, hN2, hB2, hS2⟩ := hrel
        clear hO1 hN1 hB1 hS1
        by_cases hlk : k < 5
        · have his := fun w => HIS.out k w hlk
          have bV := HAL.out k
          have bc := HCC.out k hk
          have hcn : cc V (k + 1) = (V k + cc V k) / 2251799813685248 := rfl
          have hon : oo V k = (V k + cc V k) % 2251799813685248 := rfl
          have hst := mix_step (oo V) (fun _ => 0) k
          unfold sumV at his
          obtain ⟨h, hh⟩ : ∃ h, h = V k / 18446744073709551616 := ⟨_, rfl⟩
          obtain ⟨l, hl⟩ : ∃ l, l = V k % 18446744073709551616 := ⟨_, rfl⟩
          obtain ⟨c, hc⟩ : ∃ c, c = cc V k := ⟨_, rfl⟩
          have hadd := fun w => run_Add64 l c (by omega) (by omega) w
          obtain ⟨r, hr⟩ : ∃ r, r = (l + c) % 18446744073709551616 := ⟨_, rfl⟩
          obtain ⟨d, hd⟩ : ∃ d, d = (l + c) / 18446744073709551616 := ⟨_, rfl⟩
          rw [← hr, ← hd] at hadd
          rw [← hh, ← hl] at his
          rw [← hc] at hcn hon ⊢
          obtain ⟨s, hs⟩ : ∃ s, s = h + d := ⟨_, rfl⟩
          have m1 : (h : Int) + (d : Int) = (s : Int) := by omega
          have bs : s < 2251799813685248 := by omega
          have br : r < 18446744073709551616 := by omega
          obtain ⟨o, ho⟩ : ∃ o, o = oo V k := ⟨_, rfl⟩
          rw [← ho] at hon hst
          have m2 : bits BinOp.and IntKind.u64 (r : Int) 2251799813685247 = (o : Int) := by
            rw [and51 r (by omega)]
            have : low r = o := by unfold low; omega
            rw [this]
          obtain ⟨s13, hs13⟩ : ∃ s13, s13 = s * 8192 := ⟨_, rfl⟩
          have m3 : IntKind.u64.wrap ((s : Int) * 8192) = (s13 : Int) := by rw [IntKind.wrap_u64]; omega
          obtain ⟨r51, hr51⟩ : ∃ r51, r51 = r / 2251799813685248 := ⟨_, rfl⟩
          have m4 : (r : Int) / 2251799813685248 = (r51 : Int) := by omega
          obtain ⟨c', hc'⟩ : ∃ c', c' = cc V (k + 1) := ⟨_, rfl⟩
          rw [← hc'] at hcn
          have m5 : bits BinOp.or IntKind.u64 (s13 : Int) (r51 : Int) = (c' : Int) := by
            rw [u64_or_nat _ _ (by omega) (by omega)]
            have e := Nat.two_pow_add_eq_or_of_lt (i := 13) (b := r51) (by omega) s
            have e2 : s13 ||| r51 = s13 + r51 := by rw [hs13, show s * 8192 = 2 ^ 13 * s by omega, ← e]
            rw [e2]
            have : s13 + r51 = c' := by omega
            rw [this]
          have bs13 : s13 < 18446744073709551616 := by omega
          have HC' := Lib.hid hc'
          have HST := Lib.hid hst
          have hXa := hX.alloc (.cells #[.int .u64 h, .int .u64 l] 89)
          have gx := hXa.cell k (gArr_get _ k hlk)
          rw [mix_here] at gx
          have fx := hXa.frozen k
          have hBa := hB2.alloc (by omega) (.cells #[.int .u64 h, .int .u64 l] 89)
          have hNa := hN2.alloc (.cells #[.int .u64 h, .int .u64 l] 89)
          have hSa : O + 1 ≤ (wb.alloc (.cells #[.int .u64 h, .int .u64 l] 89)).heap.size := by simp; omega
          clear hcn hon hst hh hl hc hr hd hs ho hs13 hr51 hc' bV bc
          go_wp2_with fail
          refine ⟨⟨k + 1, by omega, by go_num, by rw [HC'.out], ?_, hNa.far _ _ (by simp; omega), hBa.setCell (by simp; omega) _, by simpa using hSa⟩, by simp [intOf]; omega⟩
          have hh := hXa.set k (.int .u64 (o : Nat))
          rw [gArr_set, HST.out] at hh
          exact hh
        · obtain rfl : k = 5 := by omega
          have bc := HCC.out 5 (Nat.le_refl _)
          have x0 := hX.cell 0 (gArr_get _ 0 (by omega))
          have x1 := hX.cell 1 (gArr_get _ 1 (by omega))
          have f0 := hX.frozen 0
          have f1 := hX.frozen 1
          rw [show mix (oo V) (fun _ => 0) 5 0 = oo V 0 from rfl] at x0
          rw [show mix (oo V) (fun _ => 0) 5 1 = oo V 1 from rfl] at x1
          have b0 := oo_lt V 0
          have b1 := oo_lt V 1
          have hT : lastT V = 19 * cc V 5 + oo V 0 := rfl
          have hml : (mulO V).v = .agg (gArr (upd (upd (mix (oo V) (fun _ => 0) 5) 0 (lastT V % 2251799813685248)) 1 (oo V 1 + lastT V / 2251799813685248))) := rfl
          rw [hml] at HCAR
          obtain ⟨T, hTe⟩ : ∃ T, T = lastT V := ⟨_, rfl⟩
          obtain ⟨c, hc⟩ : ∃ c, c = cc V 5 := ⟨_, rfl⟩
          obtain ⟨o0, ho0⟩ : ∃ o0, o0 = oo V 0 := ⟨_, rfl⟩
          obtain ⟨o1, ho1⟩ : ∃ o1, o1 = oo V 1 := ⟨_, rfl⟩
          rw [← hTe, ← hc, ← ho0] at hT
          rw [← hTe, ← ho1] at HCAR
          rw [← hc] at bc ⊢
          rw [← ho0] at x0 b0
          rw [← ho1] at x1 b1
          have HM := Lib.hid (fun w : World => Try.bits_Mul64 c 19 (by omega) (by omega) w)
          obtain ⟨h, hh⟩ : ∃ h, h = c * 19 / 18446744073709551616 := ⟨_, rfl⟩
          obtain ⟨l, hl⟩ : ∃ l, l = c * 19 % 18446744073709551616 := ⟨_, rfl⟩
          rw [← hh, ← hl] at HM
          have hadd := fun w => run_Add64 l o0 (by omega) (by omega) w
          obtain ⟨r, hr⟩ : ∃ r, r = (l + o0) % 18446744073709551616 := ⟨_, rfl⟩
          obtain ⟨d, hd⟩ : ∃ d, d = (l + o0) / 18446744073709551616 := ⟨_, rfl⟩
          rw [← hr, ← hd] at hadd
          obtain ⟨s, hs⟩ : ∃ s, s = h + d := ⟨_, rfl⟩
          have m1 : (h : Int) + (d : Int) = (s : Int) := by omega
          have bs : s < 1000 := by omega
          have br : r < 18446744073709551616 := by omega
          obtain ⟨z0, hz0⟩ : ∃ z0, z0 = T % 2251799813685248 := ⟨_, rfl⟩
          have m2 : bits BinOp.and IntKind.u64 (r : Int) 2251799813685247 = (z0 : Int) := by
            rw [and51 r (by omega)]
            have : low r = z0 := by unfold low; omega
            rw [this]
          obtain ⟨s13, hs13⟩ : ∃ s13, s13 = s * 8192 := ⟨_, rfl⟩
          have m3 : IntKind.u64.wrap ((s : Int) * 8192) = (s13 : Int) := by rw [IntKind.wrap_u64]; omega
          have m3' : (s : Int) * 8192 = (s13 : Int) := by omega
          obtain ⟨r51, hr51⟩ : ∃ r51, r51 = r / 2251799813685248 := ⟨_, rfl⟩
          have m4 : (r : Int) / 2251799813685248 = (r51 : Int) := by omega
          obtain ⟨g, hg⟩ : ∃ g, g = T / 2251799813685248 := ⟨_, rfl⟩
          have m5 : bits BinOp.or IntKind.u64 (s13 : Int) (r51 : Int) = (g : Int) := by
            rw [u64_or_nat _ _ (by omega) (by omega)]
            have e := Nat.two_pow_add_eq_or_of_lt (i := 13) (b := r51) (by omega) s
            have e2 : s13 ||| r51 = s13 + r51 := by rw [hs13, show s * 8192 = 2 ^ 13 * s by omega, ← e]
            rw [e2]
            have : s13 + r51 = g := by omega
            rw [this]
          obtain ⟨z1, hz1⟩ : ∃ z1, z1 = o1 + g := ⟨_, rfl⟩
          have m6 : (o1 : Int) + (g : Int) = (z1 : Int) := by omega
          have bg : g < 100000000 := by omega
          rw [← hz0, ← hg, ← hz1] at HCAR
          clear hT hml hTe hc ho0 ho1 hh hl hr hd hs hz0 hs13 hr51 hg hz1 HSS HIS HAL HCC
          go_wp2_with fail
          refine (HM.out _).mono ?_
          rintro e w2 ⟨rfl, rfl⟩
          go_upto_region 27 with fail
          have hX3 := (hX.set 0 (.int .u64 (z0 : Nat))).set 1 (.int .u64 (z1 : Nat))
          rw [gArr_set, gArr_set] at hX3
          have hN3 : Box ((w2.setCell ⟨O, 0, none⟩ (.int .u64 (z0 : Nat))).setCell ⟨O, 1, none⟩ (.int .u64 (z1 : Nat))) (w.heap.size + 2) 27 N := (hN2.far _ _ (by simp; omega)).far _ _ (by simp; omega)
          have hB3 : Below w.heap.size w ((w2.setCell ⟨O, 0, none⟩ (.int .u64 (z0 : Nat))).setCell ⟨O, 1, none⟩ (.int .u64 (z1 : Nat))) := (hB2.setCell (by simp; omega) _).setCell (by simp; omega) _
          obtain ⟨G, hG⟩ : ∃ G, G = gArr (upd (upd (mix (oo V) (fun _ => 0) 5) 0 z0) 1 z1) := ⟨_, rfl⟩
          rw [← hG] at hX3 HCAR
          have HGS := Lib.hid (show G.size = 5 by rw [hG]; exact gArr_size _)
          have hS3 : O + 1 ≤ ((w2.setCell ⟨O, 0, none⟩ (.int .u64 (z0 : Nat))).setCell ⟨O, 1, none⟩ (.int .u64 (z1 : Nat))).heap.size := by simpa using hS2
          generalize ((w2.setCell ⟨O, 0, none⟩ (.int .u64 (z0 : Nat))).setCell ⟨O, 1, none⟩ (.int .u64 (z1 : Nat))) = w3 at *
          clear hG hX hN2 hB2 x0 x1 f0 f1 hadd
          go_step
          refine wpList_load_box rfl 27 (.tmp 10) rfl hX3 (by simp [go_sem]) Try.underlying27 rfl (by rw [HGS.out]; kernel_rfl) ?_
          refine wpList_enter rfl 58 #[.agg G] (by simp [go_sem, Act.put]) _ _ (HCAR.out w3) ?_
          intro w4 hb4
          refine wpList_store_box (cells := R) rfl 27 (.tmp 4) (.tmp 123) rfl (hN3.after hb4) (by simp [go_sem, Act.put]) (by simp [go_sem, Act.put]) (by rw [HNS.out, HRS.out]) (by rw [HRS.out]; kernel_rfl) HR1.out ?_
          intro w5 hR5 hst
          have hB5 := hst.below w.heap.size w (by omega) (hB3.trans (hb4.mono (by omega)))
          simp only [Act.put, List.setIfInBounds_toArray, List.set_cons_zero, List.set_cons_succ]
          clear hst hb4 hX3 hN3 hB3
          go_wp2_with fail
          exact bodyPost_ret (v := .agg R) (box_result rfl _ _ (by rfl) hR5 Try.underlying27 rfl (by rw [HRS.out]; kernel_rfl)) rfl ⟨rfl, hB5⟩
end Go.Proofs.Ytpkoniebbkkmjaa
namespace Go.Proofs.Ytpkoniebbkkmjaa
open Go.RowKit

/-- a number's element -/
def ofL (n : Nat) : L5 := ⟨low n, car n, 0, 0, 0⟩
theorem ofL_val (n : Nat) : (ofL n).val = n := by
  have := car_low n
  simp only [ofL, L5.val]; omega
theorem ofL_lt (n : Nat) (h : n < 18446744073709551616) : (ofL n).lt 2251799813685248 := by
  have := low_lt n
  have : car n < 8192 := by unfold car; omega
  exact ⟨by simp only [ofL]; omega, by simp only [ofL]; omega, by simp only [ofL]; omega, by simp only [ofL]; omega, by simp only [ofL]; omega⟩
theorem lt_mono {x : L5} {m n : Nat} (h : x.lt m) (hmn : m ≤ n) : x.lt n := by
  obtain ⟨h1, h2, h3, h4, h5⟩ := h
  exact ⟨by omega, by omega, by omega, by omega, by omega⟩
theorem mul_mod (x y : L5) : (x.mul y).val % P25 = x.val * y.val % P25 := by
  obtain ⟨K, hK⟩ := mul_val x y
  rw [← hK, Nat.add_mul_mod_self_left, Nat.add_mul_mod_self_left]
  exact cry_mod _

/-- the contracts, spelt with the cells -/
theorem of_g (n : Nat) (hn : n < 18446744073709551616) (w : World) : Calls Try.prog 29 #[.int .u64 n] w fun e w' => e = .returned (.agg (gArr (ofL n).at)) ∧ Below w.heap.size w w' := of_any n w hn
theorem add_g (x y : L5) (hx : x.lt 4611686018427387904) (hy : y.lt 4611686018427387904) (w : World) : Calls Try.prog 33 #[.agg (gArr x.at), .agg (gArr y.at)] w fun e w' => e = .returned (.agg (gArr (x.add y).at)) ∧ Below w.heap.size w w' := add_any x y w hx hy
theorem sub_g (x y : L5) (hx : x.lt 4611686018427387904) (hy : y.lt 4611686018427387904) (w : World) : Calls Try.prog 31 #[.agg (gArr x.at), .agg (gArr y.at)] w fun e w' => e = .returned (.agg (gArr (x.sub y).at)) ∧ Below w.heap.size w w' := sub_any x y w hx (lt_mono hy (by omega))
theorem mul_g (x y : L5) (hx : x.lt 4503599627370496) (hy : y.lt 4503599627370496) (w : World) : Calls Try.prog 30 #[.agg (gArr x.at), .agg (gArr y.at)] w fun e w' => e = .returned (.agg (gArr (x.mul y).at)) ∧ Below w.heap.size w w' := mul_any x y w (at_lt hx) (at_lt hy)
theorem same_g (x y : L5) (b : Bool) (hx : x.lt 4611686018427387904) (hy : y.lt 4611686018427387904) (hb : (x.val % P25 == y.val % P25) = b) (w : World) : Calls Try.prog 36 #[.agg (gArr x.at), .agg (gArr y.at)] w fun e w' => e = .returned (.bool b) ∧ Below w.heap.size w w' := by
  have := same_any x y w (lt_mono hx (by omega)) (lt_mono hy (by omega))
  rw [hb] at this
  exact this
theorem gz : gArr L5.zero.at = #[.int .u64 0, .int .u64 0, .int .u64 0, .int .u64 0, .int .u64 0] := rfl

end Go.Proofs.Ytpkoniebbkkmjaa
namespace Go.Proofs.Ytpkoniebbkkmjaa
open Go.RowKit

/-- an element of the program's, and the document's number -/
def El (x : L5) (u : Nat) : Prop := x.lt 4503599627370496 ∧ u < P25 ∧ x.val % P25 = u
theorem el_add {x y : L5} {u v : Nat} (hx : El x u) (hy : El y v) : El (x.add y) ((u + v) % P25) := by
  refine ⟨lt_mono (add_tight (lt_mono hx.1 (by omega)) (lt_mono hy.1 (by omega))) (by omega), Nat.mod_lt _ (by unfold P25; omega), ?_⟩
  rw [add_mod, Nat.add_mod, hx.2.2, hy.2.2]
theorem el_mul {x y : L5} {u v : Nat} (hx : El x u) (hy : El y v) : El (x.mul y) (u * v % P25) := by
  refine ⟨lt_mono (cry_tight _ (mulO_lt (allV_le (at_lt hx.1) (at_lt hy.1) 5 (Nat.le_refl _)))) (by omega), Nat.mod_lt _ (by unfold P25; omega), ?_⟩
  rw [mul_mod, Nat.mul_mod, hx.2.2, hy.2.2]
theorem el_sub {x y : L5} {u v : Nat} (hx : El x u) (hy : El y v) : El (x.sub y) ((u + (P25 - v)) % P25) := by
  refine ⟨lt_mono (sub_tight (lt_mono hx.1 (by omega))) (by omega), Nat.mod_lt _ (by unfold P25; omega), ?_⟩
  have h := sub_mod (x := x) (y := y) (lt_mono hy.1 (by omega))
  have h1 := hx.2.2
  have h2 := hy.2.2
  have h3 := hx.2.1
  have h4 := hy.2.1
  unfold P25 at *
  omega


end Go.Proofs.Ytpkoniebbkkmjaa
namespace Go.Proofs.Ytpkoniebbkkmjaa
open Go.RowKit

theorem el_one : El (ofL 1) 1 := ⟨lt_mono (ofL_lt 1 (by decide)) (by omega), by unfold P25; omega, by rw [ofL_val]; rfl⟩
/-- u to the power of e -/
def pw (u e : Nat) : Nat := u ^ e % P25
theorem pw_sq (u e : Nat) : pw u e * pw u e % P25 = pw u (2 * e) := by
  unfold pw; rw [← Nat.mul_mod, ← Nat.pow_add, Nat.two_mul]
theorem pw_more (u e : Nat) : pw u e * u % P25 = pw u (e + 1) := by
  unfold pw; rw [Nat.mod_mul_mod, Nat.pow_succ]
theorem half_step (e k : Nat) : e / 2 ^ k = 2 * (e / 2 ^ (k + 1)) + e / 2 ^ k % 2 := by
  rw [Nat.pow_succ, ← Nat.div_div_eq_div_mul]; omega
theorem low_bit (n l k : Nat) (h1 : 1 ≤ l) (h2 : l < 18446744073709551616) (h3 : 64 ≤ n) (hk : k < 64) : (18446744073709551616 - l) / 2 ^ k % 2 = (2 ^ n - l) / 2 ^ k % 2 := by
  obtain ⟨m, rfl⟩ : ∃ m, n = 64 + m := ⟨n - 64, by omega⟩
  have e : 2 ^ (64 + m) - l = (18446744073709551616 - l) + 2 ^ 64 * (2 ^ m - 1) := by
    have h0 : 0 < 2 ^ m := Nat.pow_pos (by omega)
    rw [Nat.pow_add, Nat.mul_sub]
    have : (2 : Nat) ^ 64 * 1 ≤ 2 ^ 64 * 2 ^ m := Nat.mul_le_mul_left _ h0
    have e64 : (2 : Nat) ^ 64 = 18446744073709551616 := rfl
    omega
  have hm : (2 ^ (64 + m) - l) % 2 ^ 64 = 18446744073709551616 - l := by
    rw [e, Nat.add_mul_mod_self_left]
    exact Nat.mod_eq_of_lt (by have e64 : (2 : Nat) ^ 64 = 18446744073709551616 := rfl; omega)
  rw [← hm, bit_mod _ _ _ hk]
theorem high_bit (n l k : Nat) (h1 : 1 ≤ l) (h2 : l < 18446744073709551616) (hk : 64 ≤ k) (hkn : k < n) : (2 ^ n - l) / 2 ^ k % 2 = 1 := by
  obtain ⟨m, rfl⟩ : ∃ m, n = k + 1 + m := ⟨n - k - 1, by omega⟩
  have hl : l ≤ 2 ^ k := Nat.le_trans (Nat.le_of_lt h2) (Nat.pow_le_pow_right (n := 2) (by omega) hk)
  have h0 : 0 < 2 ^ m := Nat.pow_pos (by omega)
  have e : 2 ^ (k + 1 + m) - l = (2 ^ k - l) + 2 ^ k * (2 * 2 ^ m - 1) := by
    rw [Nat.pow_add, Nat.pow_succ, Nat.mul_sub, Nat.mul_assoc]
    have : (2 : Nat) ^ k * 1 ≤ 2 ^ k * (2 * 2 ^ m) := Nat.mul_le_mul_left _ (by omega)
    omega
  rw [e, Nat.add_mul_div_left _ _ (Nat.pow_pos (by omega))]
  rw [Nat.div_eq_of_lt (by have : 0 < 2 ^ k := Nat.pow_pos (by omega); omega)]
  omega

set_option maxRecDepth 100000 in
set_option maxHeartbeats 2000000 in
theorem power_any (x : L5) (u n l : Nat) (w : World) (hx : El x u) (h1 : 1 ≤ l) (h2 : l < 18446744073709551616) (h3 : 64 ≤ n) (h4 : n ≤ 255) :
    Calls Try.prog 59 #[.agg (gArr x.at), .int .i64 n, .int .u64 l] w fun e w' => ∃ z : L5, e = .returned (.agg (gArr z.at)) ∧ El z (pw u (2 ^ n - l)) ∧ Below w.heap.size w w' := by
  have hE : 2 ^ n - l < 2 ^ n := by
    have : 0 < 2 ^ n := Nat.pow_pos (by omega)
    omega
  have HX := Lib.hid hx
  have HLO := Lib.hid (fun k hk => low_bit n l k h1 h2 h3 hk)
  have HHI := Lib.hid (fun k hk hkn => high_bit n l k h1 h2 hk hkn)
  obtain ⟨M, hM⟩ : ∃ M, M = 18446744073709551616 - l := ⟨_, rfl⟩
  rw [← hM] at HLO
  have eM : IntKind.u64.wrap (-(l : Int)) = (M : Int) := by rw [IntKind.wrap_u64]; omega
  have hMl : M < 18446744073709551616 := by omega
  obtain ⟨T, hT⟩ : ∃ T, T = 2 ^ n - l := ⟨_, rfl⟩
  rw [← hT] at HLO HHI hE ⊢
  have H0 := Lib.hid (show T / 2 ^ n = 0 from Nat.div_eq_of_lt hE)
  clear hE hT hM hx h1
  have HON := Lib.hid (of_g 1 (by decide))
  go_enter Try.func59, Try.ntmps59
  go_upto_region 1 with fail
  have g0 : Box ((w.alloc (.cells (gArr x.at) 27)).alloc (.cells #[.int .u64 0, .int .u64 0, .int .u64 0, .int .u64 0, .int .u64 0] 27)) w.heap.size 27 (gArr x.at) := (Box.new _ _ _).alloc _
  have g1 : Box ((w.alloc (.cells (gArr x.at) 27)).alloc (.cells #[.int .u64 0, .int .u64 0, .int .u64 0, .int .u64 0, .int .u64 0] 27)) (w.heap.size + 1) 27 #[.int .u64 0, .int .u64 0, .int .u64 0, .int .u64 0, .int .u64 0] := by
    have := Box.new (w.alloc (.cells (gArr x.at) 27)) 27 #[.int .u64 0, .int .u64 0, .int .u64 0, .int .u64 0, .int .u64 0]
    simp only [World.size_alloc] at this
    exact this
  have g3 : Below w.heap.size w ((w.alloc (.cells (gArr x.at) 27)).alloc (.cells #[.int .u64 0, .int .u64 0, .int .u64 0, .int .u64 0, .int .u64 0] 27)) := ((Below.refl w.heap.size w).alloc (Nat.le_refl _) _).alloc (by simp) _
  have g4 : w.heap.size + 2 ≤ ((w.alloc (.cells (gArr x.at) 27)).alloc (.cells #[.int .u64 0, .int .u64 0, .int .u64 0, .int .u64 0, .int .u64 0] 27)).heap.size := by simp
  change Code.wp _ _ _ _ ((w.alloc (.cells (gArr x.at) 27)).alloc (.cells #[.int .u64 0, .int .u64 0, .int .u64 0, .int .u64 0, .int .u64 0] 27))
  generalize ((w.alloc (.cells (gArr x.at) 27)).alloc (.cells #[.int .u64 0, .int .u64 0, .int .u64 0, .int .u64 0, .int .u64 0] 27)) = W at *
  go_step
  refine wpList_enter rfl 29 #[.int .u64 1] (by simp [go_sem]) _ _ (HON.out W) ?_
  intro w1 b1
  refine wpList_alloc_box rfl 27 rfl #[.int .u64 0, .int .u64 0, .int .u64 0, .int .u64 0, .int .u64 0] (by intro w; simp [go_sem]) ?_
  refine wpList_store_box (cells := gArr (ofL 1).at) rfl 27 (.tmp 7) (.tmp 10) rfl (Box.new _ _ _) (by simp [go_sem, Act.put]) (by simp [go_sem, Act.put]) (by rw [gArr_size]; rfl) (by rw [gArr_size]; kernel_rfl) (gArr_one _) ?_
  intro w2 hO st
  have s1 := b1.size
  have hX := st.box ((g0.after b1).alloc _) (by omega)
  have hR := st.box ((g1.after b1).alloc _) (by omega)
  have hB := st.below w.heap.size w (by omega) ((g3.trans (b1.mono (by omega))).alloc (by omega) _)
  have hS : w1.heap.size + 1 ≤ w2.heap.size := by have := st.size; simp at this; omega
  have hHO : w.heap.size + 2 ≤ w1.heap.size := by omega
  simp only [Act.put, List.setIfInBounds_toArray, List.set_cons_zero, List.set_cons_succ]
  clear st b1 s1 g0 g1 g3 g4
  generalize w1.heap.size = O at *
  go_wp2_with fail
  go_loopw [8] (fun i wr => ∃ (k : Nat) (z : L5), k ≤ n ∧ i = .int .i64 ((k : Int) - 1) ∧ El z (pw u (T / 2 ^ k)) ∧ Box wr O 27 (gArr z.at) ∧ Box wr w.heap.size 27 (gArr x.at) ∧ Box wr (w.heap.size + 1) 27 #[.int .u64 0, .int .u64 0, .int .u64 0, .int .u64 0, .int .u64 0] ∧ Below w.heap.size w wr ∧ O + 1 ≤ wr.heap.size) (fun i _ => (intOf i + 1).toNat)
  case atStart => exact ⟨n, ofL 1, Nat.le_refl _, rfl, by rw [H0.out]; exact el_one, hO, hX, hR, hB, hS⟩
  case round =>
    obtain ⟨wa, rfl⟩ : ∃ wa : World, wa = wr := ⟨_, rfl⟩
    obtain ⟨k, z, hk, rfl, hz, hO, hX, hR, hB, hS⟩ := hrel
    by_cases hlt : 0 < k
    · obtain ⟨m, rfl⟩ : ∃ m, k = m + 1 := ⟨k - 1, by omega⟩
      rw [show (((m + 1 : Nat) : Int) - 1) = (m : Int) by omega]
      have hst := half_step T m
      have hzz := el_mul hz hz
      rw [pw_sq] at hzz
      have HMZ := Lib.hid (mul_g z z (lt_mono hz.1 (by omega)) (lt_mono hz.1 (by omega)))
      obtain ⟨y, hy⟩ : ∃ y, y = z.mul z := ⟨_, rfl⟩
      rw [← hy] at hzz HMZ
      clear hy
      have HMX := Lib.hid (mul_g y x (lt_mono hzz.1 (by omega)) (lt_mono HX.out.1 (by omega)))
      have hyx := el_mul hzz HX.out
      rw [pw_more] at hyx
      have hbt2 : T / 2 ^ m % 2 < 2 := Nat.mod_lt _ (by omega)
      have hlo : m < 64 → M / 2 ^ m % 2 = T / 2 ^ m % 2 := HLO.out m
      have hhi : 64 ≤ m → T / 2 ^ m % 2 = 1 := fun h => HHI.out m h (by omega)
      have hMm : M / 2 ^ m < 18446744073709551616 := Nat.lt_of_le_of_lt (Nat.div_le_self _ _) hMl
      obtain ⟨bt, hbt⟩ : ∃ bt, bt = T / 2 ^ m % 2 := ⟨_, rfl⟩
      rw [← hbt] at hst hlo hhi hbt2
      have m1 : m < 64 → bits BinOp.and IntKind.u64 ((M : Int) / 2 ^ m) 1 = (bt : Int) := fun h => by
        rw [show ((M : Int) / 2 ^ m) = ((M / 2 ^ m : Nat) : Int) by simp, show (1 : Int) = ((1 : Nat) : Int) from rfl, u64_and_nat _ _ (by omega) (by omega), Nat.and_one_is_mod, hlo h]
      have b0 : (0 : Int) ≤ (m : Int) := by omega
      have b1 : (m : Int) ≤ 255 := by omega
      have HZZ := Lib.hid hzz
      have HYX := Lib.hid hyx
      have HST := Lib.hid hst
      have HZ := Lib.hid hz
      clear hzz hyx hst hz hlo hMm
      go_upto_region 5 with fail
      go_step
      refine wpList_made 3 wa.heap.size wa (Below.refl _ _) ?_
      simp only [List.take_succ_cons, List.take_zero, List.drop_succ_cons, List.drop_zero]
      refine wpQ_load_box rfl 27 _ rfl hO (by rfl) hO.lt Try.underlying27 rfl (by rw [gArr_size]; kernel_rfl) ?_
      simp only [Act.put, List.setIfInBounds_toArray, List.set_cons_zero, List.set_cons_succ]
      refine wpQ_load_box rfl 27 _ rfl hO (by rfl) hO.lt Try.underlying27 rfl (by rw [gArr_size]; kernel_rfl) ?_
      simp only [Act.put, List.setIfInBounds_toArray, List.set_cons_zero, List.set_cons_succ]
      refine wpQ_call rfl 30 #[.agg (gArr z.at), .agg (gArr z.at)] (fun w => by simp [go_sem]) _ (Nat.le_refl _) HMZ.out ?_
      simp only [Act.put, List.setIfInBounds_toArray, List.set_cons_zero, List.set_cons_succ]
      intro wa1 bm
      refine wpList_store_box (cells := gArr y.at) rfl 27 (.tmp 7) (.tmp 19) rfl (hO.after bm) (by simp [go_sem]) (by simp [go_sem]) (by rw [gArr_size, gArr_size]) (by rw [gArr_size]; kernel_rfl) (gArr_one _) ?_
      intro wa2 hO2 sm
      have hX2 := sm.box (hX.after bm) (by omega)
      have hR2 := sm.box (hR.after bm) (by omega)
      have hB2 := sm.below w.heap.size w (by omega) (hB.trans (bm.mono (by omega)))
      have hS2 : O + 1 ≤ wa2.heap.size := by have := sm.size; have := bm.size; omega
      simp only [Act.put]
      clear sm bm hO hX hR hB hS
      have fin : ∀ (t : L5) (w' : World), El t (pw u (T / 2 ^ m)) → Box w' O 27 (gArr t.at) → Box w' w.heap.size 27 (gArr x.at) → Box w' (w.heap.size + 1) 27 #[.int .u64 0, .int .u64 0, .int .u64 0, .int .u64 0, .int .u64 0] → Below w.heap.size w w' → O + 1 ≤ w'.heap.size →
          ∃ (k : Nat) (z : L5), k ≤ n ∧ Value.int .i64 ((m : Int) - 1) = .int .i64 ((k : Int) - 1) ∧ El z (pw u (T / 2 ^ k)) ∧ Box w' O 27 (gArr z.at) ∧ Box w' w.heap.size 27 (gArr x.at) ∧ Box w' (w.heap.size + 1) 27 #[.int .u64 0, .int .u64 0, .int .u64 0, .int .u64 0, .int .u64 0] ∧ Below w.heap.size w w' ∧ O + 1 ≤ w'.heap.size :=
        fun t w' a b c d e f => ⟨m, t, by omega, rfl, a, b, c, d, e, f⟩
      have FIN := Lib.hid fin
      clear fin
      by_cases h64 : m < 64
      · have m1' := m1 h64
        have h64' : (m : Int) < 64 := by omega
        clear m1 hhi hbt
        have hb01 : bt = 0 ∨ bt = 1 := by omega
        rcases hb01 with rfl | rfl
        · have m1'' : bits BinOp.and IntKind.u64 ((M : Int) / 2 ^ m) 1 = 0 := m1'
          clear m1'
          have HEL : Hid (El y (pw u (T / 2 ^ m))) := Lib.hid (by have := HZZ.out; rwa [HST.out])
          go_wp2_with fail
          refine ⟨FIN.out y wa2 HEL.out hO2 hX2 hR2 hB2 hS2, by simp [intOf]⟩
        · have m1'' : bits BinOp.and IntKind.u64 ((M : Int) / 2 ^ m) 1 = 1 := m1'
          clear m1'
          have HEL : Hid (El (y.mul x) (pw u (T / 2 ^ m))) := Lib.hid (by have := HYX.out; rwa [HST.out])
          have hO := hO2
          have hX := hX2
          have hR := hR2
          have hB := hB2
          have hS := hS2
          clear hO2 hX2 hR2 hB2 hS2
          go_upto_region 10 with fail
          go_step
          refine wpList_made 3 wa2.heap.size wa2 (Below.refl _ _) ?_
          simp only [List.take_succ_cons, List.take_zero, List.drop_succ_cons, List.drop_zero]
          refine wpQ_load_box rfl 27 _ rfl hO (by rfl) hO.lt Try.underlying27 rfl (by rw [gArr_size]; kernel_rfl) ?_
          simp only [Act.put, List.setIfInBounds_toArray, List.set_cons_zero, List.set_cons_succ]
          refine wpQ_load_box rfl 27 _ rfl hX (by rfl) hX.lt Try.underlying27 rfl (by rw [gArr_size]; kernel_rfl) ?_
          simp only [Act.put, List.setIfInBounds_toArray, List.set_cons_zero, List.set_cons_succ]
          refine wpQ_call rfl 30 #[.agg (gArr y.at), .agg (gArr x.at)] (fun w => by simp [go_sem]) _ (Nat.le_refl _) HMX.out ?_
          simp only [Act.put, List.setIfInBounds_toArray, List.set_cons_zero, List.set_cons_succ]
          intro wb1 bm
          refine wpList_store_box (cells := gArr (y.mul x).at) rfl 27 (.tmp 7) (.tmp 31) rfl (hO.after bm) (by simp [go_sem]) (by simp [go_sem]) (by rw [gArr_size, gArr_size]) (by rw [gArr_size]; kernel_rfl) (gArr_one _) ?_
          intro wb2 hO2 sm
          have hX2 := sm.box (hX.after bm) (by omega)
          have hR2 := sm.box (hR.after bm) (by omega)
          have hB2 := sm.below w.heap.size w (by omega) (hB.trans (bm.mono (by omega)))
          have hS2 : O + 1 ≤ wb2.heap.size := by have := sm.size; have := bm.size; omega
          simp only [Act.put]
          clear sm bm hO hX hR hB hS

          go_wp2_with fail
          refine ⟨FIN.out (y.mul x) wb2 HEL.out hO2 hX2 hR2 hB2 hS2, by simp [intOf]⟩
      · have h64' : ¬ (m : Int) < 64 := by omega
        obtain rfl : bt = 1 := hhi (by omega)
        clear m1 hhi hbt
        have HEL : Hid (El (y.mul x) (pw u (T / 2 ^ m))) := Lib.hid (by have := HYX.out; rwa [HST.out])
        have hO := hO2
        have hX := hX2
        have hR := hR2
        have hB := hB2
        have hS := hS2
        clear hO2 hX2 hR2 hB2 hS2
        go_upto_region 10 with fail
        go_step
        refine wpList_made 3 wa2.heap.size wa2 (Below.refl _ _) ?_
        simp only [List.take_succ_cons, List.take_zero, List.drop_succ_cons, List.drop_zero]
        refine wpQ_load_box rfl 27 _ rfl hO (by rfl) hO.lt Try.underlying27 rfl (by rw [gArr_size]; kernel_rfl) ?_
        simp only [Act.put, List.setIfInBounds_toArray, List.set_cons_zero, List.set_cons_succ]
        refine wpQ_load_box rfl 27 _ rfl hX (by rfl) hX.lt Try.underlying27 rfl (by rw [gArr_size]; kernel_rfl) ?_
        simp only [Act.put, List.setIfInBounds_toArray, List.set_cons_zero, List.set_cons_succ]
        refine wpQ_call rfl 30 #[.agg (gArr y.at), .agg (gArr x.at)] (fun w => by simp [go_sem]) _ (Nat.le_refl _) HMX.out ?_
        simp only [Act.put, List.setIfInBounds_toArray, List.set_cons_zero, List.set_cons_succ]
        intro wb1 bm
        refine wpList_store_box (cells := gArr (y.mul x).at) rfl 27 (.tmp 7) (.tmp 31) rfl (hO.after bm) (by simp [go_sem]) (by simp [go_sem]) (by rw [gArr_size, gArr_size]) (by rw [gArr_size]; kernel_rfl) (gArr_one _) ?_
        intro wb2 hO2 sm
        have hX2 := sm.box (hX.after bm) (by omega)
        have hR2 := sm.box (hR.after bm) (by omega)
        have hB2 := sm.below w.heap.size w (by omega) (hB.trans (bm.mono (by omega)))
        have hS2 : O + 1 ≤ wb2.heap.size := by have := sm.size; have := bm.size; omega
        simp only [Act.put]
        clear sm bm hO hX hR hB hS

        go_wp2_with fail
        refine ⟨FIN.out (y.mul x) wb2 HEL.out hO2 hX2 hR2 hB2 hS2, by simp [intOf]⟩
    · obtain rfl : k = 0 := by omega
      rw [Nat.pow_zero, Nat.div_one] at hz
      have HZ := Lib.hid hz
      clear hz
      go_upto_region 11 with fail
      go_step
      refine wpList_load_box rfl 27 _ rfl hO (by simp [go_sem]) Try.underlying27 rfl (by rw [gArr_size]; kernel_rfl) ?_
      refine wpList_store_box (cells := gArr z.at) rfl 27 (.tmp 6) (.tmp 32) rfl hR (by simp [go_sem, Act.put]) (by simp [go_sem, Act.put]) (by rw [gArr_size]; rfl) (by rw [gArr_size]; kernel_rfl) (gArr_one _) ?_
      intro w5 hR5 st5
      have hB5 := st5.below w.heap.size w (by omega) hB
      simp only [Act.put, List.setIfInBounds_toArray, List.set_cons_zero, List.set_cons_succ]
      clear st5 hO hX hR hB
      go_wp2_with fail
      exact bodyPost_ret (v := .agg (gArr z.at)) (box_result rfl _ _ (by rfl) hR5 Try.underlying27 rfl (by rw [gArr_size]; kernel_rfl)) rfl ⟨z, rfl, HZ.out, hB5⟩
end Go.Proofs.Ytpkoniebbkkmjaa

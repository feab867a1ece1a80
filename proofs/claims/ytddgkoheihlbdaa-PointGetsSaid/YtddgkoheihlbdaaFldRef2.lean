/- field: the document's Of, Raw and Bytes: what they compute. -/
import Derived.Test.YtddgkoheihlbdaaFldRef1
import Derived.Test.YtddgkoheihlbdaaFldMath3
import Derived.Test.YtddgkoheihlbdaaSl2
import Derived.Test.YtddgkoheihlbdaaFldEq
import Derived.StillTailTactics
namespace Go.Proofs.Ytddgkoheihlbdaa
open Go.RowKit

/-- the lowest k digits of n, behind them noughts -/
def digTo (n k j : Nat) : Nat := if j < k then dig n j else 0
theorem digTo_set (n k : Nat) : upd (digTo n k) k (dig n k) = digTo n (k + 1) := by
  funext j; unfold upd digTo
  by_cases h : j = k
  · subst h; simp
  · by_cases h2 : j < k
    · rw [if_neg h, if_pos h2, if_pos (by omega)]
    · rw [if_neg h, if_neg h2, if_neg (by omega)]
theorem digTo_zero (n : Nat) : digTo n 0 = fun _ => 0 := by funext j; simp [digTo]
theorem digTo_all (n k : Nat) (h : n < 65536 ^ k) : ∀ j, j < 16 → digTo n k j = dig n j := fun j _ => by
  unfold digTo dig
  split
  · rfl
  · rename_i hj
    have : 65536 ^ k ≤ 65536 ^ j := Nat.pow_le_pow_right (by omega) (by omega)
    rw [Nat.div_eq_of_lt (by omega)]

set_option maxRecDepth 100000 in
set_option maxHeartbeats 1000000 in
theorem refOf_any (n : Nat) (w : World) (hn : n < 18446744073709551616) :
    Calls Try.prog 22 #[.int .u64 n] w fun e w' => e = .returned (.agg (fArr (dig n))) ∧ Below w.heap.size w w' := by
  obtain ⟨Z, hZ⟩ : ∃ Z, Z = Array.replicate 16 (Value.int .u64 0) := ⟨_, rfl⟩
  go_enter Try.func22, Try.ntmps22
  go_upto_region 1 with fail
  have g0 := Box.new w 34 (Array.replicate 16 (Value.int .u64 0))
  have g1 : Below w.heap.size w (w.alloc (.cells (Array.replicate 16 (Value.int .u64 0)) 34)) := (Below.refl _ _).alloc (Nat.le_refl _) _
  have g2 : (w.alloc (.cells (Array.replicate 16 (Value.int .u64 0)) 34)).heap.size = w.heap.size + 1 := by simp
  change Code.wp _ _ _ _ (w.alloc (.cells (Array.replicate 16 (Value.int .u64 0)) 34))
  generalize (w.alloc (.cells (Array.replicate 16 (Value.int .u64 0)) 34)) = W at *
  go_step
  refine wpList_value rfl (.agg (Array.replicate 16 (Value.int .u64 0))) (by simp [go_sem]; rfl) ?_
  refine wpList_alloc_box rfl 34 rfl (Array.replicate 16 (Value.int .u64 0)) (by intro w; simp [go_sem]; rfl) ?_
  refine wpList_store_box rfl 34 _ _ rfl (Box.new _ _ _) (by rfl) (by rfl) rfl (by kernel_rfl) (fArr_zero ▸ fArr_one _) ?_
  intro w2 hX2 hst
  have hZ2 := hst.box (g0.alloc _) (by omega)
  have hB2 := hst.below w.heap.size w (by omega) (g1.alloc (by omega) _)
  have hS2 : w.heap.size + 2 = w2.heap.size := by have := hst.size; simp at this; omega
  rw [g2] at hX2
  simp only [Act.put, List.setIfInBounds_toArray, List.set_cons_zero, List.set_cons_succ]
  rw [g2]
  clear hst g0 g1 g2
  have hS2' : w.heap.size + 2 ≤ w2.heap.size := by omega
  clear hS2
  go_wp2_with fail
  go_loopw [0, 4] (fun x i wr => ∃ k : Nat, k ≤ 4 ∧ i = .int .i64 k ∧ x = .int .u64 (n / 65536 ^ k : Nat) ∧ Box wr (w.heap.size + 1) 34 (fArr (digTo n k)) ∧ Box wr w.heap.size 34 Z ∧ Below w.heap.size w wr ∧ w.heap.size + 2 ≤ wr.heap.size) (fun _ i _ => 4 - (intOf i).toNat)
  case atStart => exact ⟨0, by omega, rfl, by simp, by rw [digTo_zero, fArr_zero]; exact hX2, hZ ▸ hZ2, hB2, hS2'⟩
  case round =>
    obtain ⟨wa, rfl⟩ : ∃ wa : World, wa = wr := ⟨_, rfl⟩
    obtain ⟨k, hk, rfl, rfl, hX, hZa, hB, hS⟩ := hrel
    clear hX2 hZ2 hB2 hS2'
    by_cases hlt : k < 4
    · have hm : n / 65536 ^ k < 18446744073709551616 := Nat.lt_of_le_of_lt (Nat.div_le_self _ _) hn
      have hq : n / 65536 ^ (k + 1) = n / 65536 ^ k / 65536 := by rw [Nat.pow_succ, Nat.div_div_eq_div_mul]
      have hr : dig n k = n / 65536 ^ k % 65536 := rfl
      have hd := digTo_set n k
      have gx := hX.cell k (fArr_get (digTo n k) k (by omega))
      have fx := hX.frozen k
      obtain ⟨m, hme⟩ : ∃ m, m = n / 65536 ^ k := ⟨_, rfl⟩
      rw [← hme] at hm hq hr ⊢
      obtain ⟨r, hre⟩ : ∃ r, r = dig n k := ⟨_, rfl⟩
      rw [← hre] at hr hd
      obtain ⟨q, hqe⟩ : ∃ q, q = n / 65536 ^ (k + 1) := ⟨_, rfl⟩
      rw [← hqe] at hq
      have e1 : (m : Int) % 65536 = (r : Int) := by omega
      have e2 : (m : Int) / 65536 = (q : Int) := by omega
      have HQ := Lib.hid hqe
      have HD := Lib.hid hd
      clear hq hr hd hme hre hqe
      generalize digTo n k k = u0 at gx
      go_wp2_with fail
      refine ⟨⟨k + 1, by omega, by go_num, by rw [HQ.out], ?_, hZa.far _ _ (by simp), hB.setCell (by simp) _, by simpa using hS⟩, by simp [intOf]; omega⟩
      have h1 := hX.set k (.int .u64 (r : Nat))
      rw [fArr_set, HD.out] at h1
      exact h1
    · obtain rfl : k = 4 := by omega
      rw [fArr_congr (digTo_all n 4 (by simpa using hn))] at hX
      have hRs : (fArr (dig n)).size = 16 := fArr_size _
      have HR1 := Lib.hid (fArr_one (dig n))
      have HZs := Lib.hid (show Z.size = 16 by rw [hZ]; rfl)
      clear hZ
      obtain ⟨R, hR⟩ : ∃ R, R = fArr (dig n) := ⟨_, rfl⟩
      rw [← hR] at hX hRs HR1
      have HR := Lib.hid hR
      clear hR
      have HRS := Lib.hid hRs
      clear hRs
      generalize n / 65536 ^ 4 = m
      go_upto_region 7 with fail
      go_step
      refine wpList_load_box rfl 34 _ rfl hX (by rfl) Try.underlying34 rfl (by rw [HRS.out]; kernel_rfl) ?_
      refine wpList_store_box rfl 34 _ _ rfl hZa (by rfl) (by rfl) (by rw [HZs.out, HRS.out]) (by rw [HRS.out]; kernel_rfl) HR1.out ?_
      intro w5 hY5 hst5
      have hB5 := hst5.below _ _ (by omega) hB
      clear hst5 hZa hB hX
      simp only [Act.put, List.setIfInBounds_toArray, List.set_cons_zero, List.set_cons_succ]
      go_wp2_with fail
      exact bodyPost_ret (v := .agg R) (box_result rfl _ _ (by rfl) hY5 Try.underlying34 rfl (by rw [HRS.out]; kernel_rfl)) rfl ⟨by rw [HR.out], hB5⟩
end Go.Proofs.Ytddgkoheihlbdaa

/- field: Get: what it computes. -/
import Derived.Test.YtddgkoheihlbdaaFld5
import Derived.Test.YtddgkoheihlbdaaConv
namespace Go.Proofs.Ytddgkoheihlbdaa
open Go.RowKit

/-- the cells of five limbs that hold the lowest i bits of n -/
def lArr (n i : Nat) : Array Value := ((List.range 5).map fun j => Value.int .u64 (chunk 51 n i j : Nat)).toArray
theorem lArr_lit (n i : Nat) : lArr n i = #[.int .u64 (chunk 51 n i 0 : Nat), .int .u64 (chunk 51 n i 1 : Nat), .int .u64 (chunk 51 n i 2 : Nat), .int .u64 (chunk 51 n i 3 : Nat), .int .u64 (chunk 51 n i 4 : Nat)] := rfl
theorem lArr_get (n i l : Nat) (h : l < 5) : (lArr n i)[l]? = some (.int .u64 (chunk 51 n i l : Nat)) := by
  simp [lArr, List.getElem?_map, List.getElem?_range h]
theorem lArr_size (n i : Nat) : (lArr n i).size = 5 := by simp [lArr]
theorem lArr_zero (n : Nat) : lArr n 0 = #[.int .u64 0, .int .u64 0, .int .u64 0, .int .u64 0, .int .u64 0] := by
  rw [lArr_lit]; simp only [chunk_zero]; rfl
theorem lArr_set (n i : Nat) : (lArr n i).setIfInBounds (i / 51) (.int .u64 (chunk 51 n (i + 1) (i / 51) : Nat)) = lArr n (i + 1) := by
  apply Array.ext
  · simp [lArr]
  · intro j h1 h2
    simp only [lArr, List.size_toArray, List.length_map, List.length_range] at h2
    rw [Array.getElem_setIfInBounds (by simpa [lArr] using h2)]
    by_cases hj : i / 51 = j
    · subst hj; simp [lArr]
    · rw [if_neg hj]; simp [lArr, chunk_other 51 n i j (by omega) (fun e => hj e.symm)]

theorem lArr_v (n : Nat) : Value.agg (lArr n 255) = (L5.of n).v := by
  rw [lArr_lit, of_chunks]

/-- 32 bytes as cells -/
def lCells (l : List UInt8) : List Value := l.map fun c => .int .u8 (c.toNat : Int)

theorem eql_get (l : List UInt8) (hl : l.length = 32) (w : World) : (Op.equalIn 10000 40 (.agg (bArr ((L5.of (leNat l)).val % P25) 255)) (.agg (lCells l).toArray)).run Try.prog w = .ok (decide (leNat l < P25)) w := by
  rw [of_val, equal_arr w 40 5 32 9999 _ (fun i => (l.getD i 0).toNat) _ _ (by kernel_rfl) (fun a b => run_equalIn_int w 9998 _ _ .u8 a b (by kernel_rfl)) (by simp [go_sem]) (by simp [go_sem]) (fun i hi => bArr_get _ 255 i hi) (fun i hi => by simp [lCells, List.getD_eq_getElem?_getD, show i < l.length by omega]), get_eq l hl _ rfl]

def L5.zero : L5 := ⟨0, 0, 0, 0, 0⟩

set_option maxHeartbeats 400000 in
theorem get_short (a : Option Addr) (len cap : Nat) (w : World) (h : len < 32) :
    Calls Try.prog 19 #[.slice a len cap] w fun e w' => e = .returned (.tuple #[L5.zero.v, .int .i64 2]) ∧ Below w.heap.size w w' := by
  go_enter Try.func19, Try.ntmps19
  go_wp2_with fail
  exact bodyPost_ret (v := .tuple #[.agg #[.int .u64 0, .int .u64 0, .int .u64 0, .int .u64 0, .int .u64 0], .int .i64 2]) (by simp [results, Try.results19, go_sem]) rfl ⟨rfl, by
    repeat (first | exact (Below.refl _ _) | refine Below.alloc ?_ (by simp) _ | refine Below.setCell ?_ (by simp) _)⟩

set_option maxHeartbeats 400000 in
theorem get_long (a : Option Addr) (len cap : Nat) (w : World) (h : 32 < len) :
    Calls Try.prog 19 #[.slice a len cap] w fun e w' => e = .returned (.tuple #[L5.zero.v, .int .i64 4]) ∧ Below w.heap.size w w' := by
  go_enter Try.func19, Try.ntmps19
  go_wp2_with fail
  exact bodyPost_ret (v := .tuple #[.agg #[.int .u64 0, .int .u64 0, .int .u64 0, .int .u64 0, .int .u64 0], .int .i64 4]) (by simp [results, Try.results19, go_sem]) rfl ⟨rfl, by
    repeat (first | exact (Below.refl _ _) | refine Below.alloc ?_ (by simp) _ | refine Below.setCell ?_ (by simp) _)⟩

set_option maxRecDepth 100000 in
set_option maxHeartbeats 1000000 in
theorem get_any (l : List UInt8) (a : Option Addr) (cap : Nat) (w : World) (hs : Sl w a 32 cap l) :
    Calls Try.prog 19 #[.slice a 32 cap] w fun e w' => e = .returned (.tuple #[(bif decide (leNat l < P25) then L5.of (leNat l) else L5.zero).v, .int .i64 (bif decide (leNat l < P25) then 0 else 6)]) ∧ Below w.heap.size w w' := by
  obtain ⟨b, o, rfl, hcell⟩ : ∃ b o, a = some ⟨b, o, none⟩ ∧ ∀ i, i < 32 → w.cell? ⟨b, o + i, none⟩ = some (.int .u8 ((l.getD i 0).toNat : Int)) := by
    obtain ⟨h1, h2, h3, h5, h4⟩ := hs
    rcases h4 with h4 | h4
    · omega
    · exact h4
  have hlen : l.length = 32 := hs.1.symm
  have hcap : 32 ≤ cap := hs.2.1
  have hb : b < w.heap.size := cell_lt (hcell 0 (by omega))
  obtain ⟨n, hn⟩ : ∃ n, n = leNat l := ⟨_, rfl⟩
  have HN := Lib.hid hn
  rw [← hn]
  have HC := Lib.hid hcell
  have HL := Lib.hid hlen
  clear hn hcell hs hlen
  obtain ⟨r, hr⟩ : ∃ r, r = decide (n < P25) := ⟨_, rfl⟩
  rw [← hr]
  have HR := Lib.hid hr
  clear hr
  go_enter Try.func19, Try.ntmps19
  go_wp2_with fail
  have g0 := heap_alloc2_old w (.cells #[.int .u64 0, .int .u64 0, .int .u64 0, .int .u64 0, .int .u64 0] 27) (.cells #[.int .u64 0, .int .u64 0, .int .u64 0, .int .u64 0, .int .u64 0] 27)
  have g1 := heap_alloc2_new w (.cells #[.int .u64 0, .int .u64 0, .int .u64 0, .int .u64 0, .int .u64 0] 27) (.cells #[.int .u64 0, .int .u64 0, .int .u64 0, .int .u64 0, .int .u64 0] 27)
  have g2 : Below w.heap.size w ((w.alloc (.cells #[.int .u64 0, .int .u64 0, .int .u64 0, .int .u64 0, .int .u64 0] 27)).alloc (.cells #[.int .u64 0, .int .u64 0, .int .u64 0, .int .u64 0, .int .u64 0] 27)) :=
    ((Below.refl w.heap.size w).alloc (Nat.le_refl _) _).alloc (by simp) _
  have g3 : w.heap.size + 2 ≤ ((w.alloc (.cells #[.int .u64 0, .int .u64 0, .int .u64 0, .int .u64 0, .int .u64 0] 27)).alloc (.cells #[.int .u64 0, .int .u64 0, .int .u64 0, .int .u64 0, .int .u64 0] 27)).heap.size := by simp
  generalize ((w.alloc (.cells #[.int .u64 0, .int .u64 0, .int .u64 0, .int .u64 0, .int .u64 0] 27)).alloc (.cells #[.int .u64 0, .int .u64 0, .int .u64 0, .int .u64 0, .int .u64 0] 27)) = W at *
  rw [← lArr_zero n] at g1
  go_loopw [16] (fun i wr => ∃ k : Nat, k ≤ 255 ∧ i = .int .i64 k ∧ Below w.heap.size w wr ∧ w.heap.size + 2 ≤ wr.heap.size ∧ wr.heap[w.heap.size]? = some (.cells #[.int .u64 0, .int .u64 0, .int .u64 0, .int .u64 0, .int .u64 0] 27 (0, 0)) ∧ wr.heap[w.heap.size + 1]? = some (.cells (lArr n k) 27 (0, 0))) (fun i _ => 255 - (intOf i).toNat)
  case atStart => exact ⟨0, by omega, rfl, g2, g3, g0, g1⟩
  case round =>
    obtain ⟨wa, rfl⟩ : ∃ wa : World, wa = wr := ⟨_, rfl⟩
    obtain ⟨k, hk, rfl, hB, hz, hR, hX⟩ := hrel
    clear g0 g1 g2 g3
    by_cases hlt : k < 255
    · obtain ⟨q, hq⟩ : ∃ q, q = k / 8 := ⟨_, rfl⟩
      obtain ⟨r, hr⟩ : ∃ r, r = k % 8 := ⟨_, rfl⟩
      obtain ⟨m, hm⟩ : ∃ m, m = k / 51 := ⟨_, rfl⟩
      obtain ⟨s, hs⟩ : ∃ s, s = k % 51 := ⟨_, rfl⟩
      have i1 : (k : Int).tdiv 8 = (q : Int) := by rw [Int.tdiv_eq_ediv_of_nonneg (by omega)]; omega
      have i2 : (k : Int).tmod 8 = (r : Int) := by rw [Int.tmod_eq_emod_of_nonneg (by omega)]; omega
      have i3 : (k : Int).tdiv 51 = (m : Int) := by rw [Int.tdiv_eq_ediv_of_nonneg (by omega)]; omega
      have i4 : (k : Int).tmod 51 = (s : Int) := by rw [Int.tmod_eq_emod_of_nonneg (by omega)]; omega
      have hq31 : q < 32 := by omega
      have hl5 : m < 5 := by omega
      have hr8 : r < 8 := by omega
      have hs51 : s < 51 := by omega
      have gx := (cell_of_row wa _ m _ _ _ hX).trans (lArr_get n k m hl5)
      have fx := frozen_of_row wa _ m _ _ hX
      have gb : wa.cell? ⟨b, o + q, none⟩ = some (.int .u8 ((l.getD q 0).toNat : Int)) := (hB.cell (p := ⟨b, o + q, none⟩) hb).trans (HC.out q hq31)
      have hy := (l.getD q 0).toNat_lt
      have hbit := leNat_bit l k
      rw [← hq, ← hr, ← HN.out] at hbit
      obtain ⟨y, hye⟩ : ∃ y, y = (l.getD q 0).toNat := ⟨_, rfl⟩
      rw [← hye] at gb hy hbit
      have k1 : IntKind.i64.wrap (q : Int) = (q : Int) := by rw [IntKind.wrap_i64]; omega
      have k2 : IntKind.i64.wrap (r : Int) = (r : Int) := by rw [IntKind.wrap_i64]; omega
      have k3 : IntKind.i64.wrap (m : Int) = (m : Int) := by rw [IntKind.wrap_i64]; omega
      have k4 : IntKind.i64.wrap (s : Int) = (s : Int) := by rw [IntKind.wrap_i64]; omega
      have b1 : (0 : Int) ≤ (q : Int) := by omega
      have b2 : (q : Int) < 32 := by omega
      have b3 : (0 : Int) ≤ (m : Int) := by omega
      have b4 : (m : Int) < 5 := by omega
      have b5 : (0 : Int) ≤ (s : Int) := by omega
      have b6 : (0 : Int) ≤ (r : Int) := by omega
      obtain ⟨z, hz'⟩ : ∃ z, z = bitAt n k := ⟨_, rfl⟩
      have hzz : z < 2 := by rw [hz']; exact bitAt_lt _ _
      have hvs : y / 2 ^ r < 256 := Nat.lt_of_le_of_lt (Nat.div_le_self _ _) hy
      have m1 : bits BinOp.and IntKind.u8 ((y : Int) / 2 ^ r) 1 = (z : Int) := by
        rw [show ((y : Int) / 2 ^ r) = ((y / 2 ^ r : Nat) : Int) by simp, show (1 : Int) = ((1 : Nat) : Int) from rfl, u8_and_nat _ _ (by omega) (by omega), Nat.and_one_is_mod, hbit, hz']
      have m2 : IntKind.u64.wrap (z : Int) = (z : Int) := by rw [IntKind.wrap_u64]; omega
      obtain ⟨t, ht⟩ : ∃ t, t = z * 2 ^ s := ⟨_, rfl⟩
      have ht51 : t < 2251799813685248 := by
        have h3 : (2 : Nat) ^ s ≤ 2 ^ 50 := Nat.pow_le_pow_right (by omega) (by omega)
        have h4 : z * 2 ^ s ≤ 1 * 2 ^ 50 := Nat.mul_le_mul (by omega) h3
        omega
      have m3 : IntKind.u64.wrap ((z : Int) * 2 ^ s) = (t : Int) := by
        rw [show ((z : Int) * 2 ^ s) = (t : Int) by rw [ht]; simp, IntKind.wrap_u64]; omega
      have hch : chunk 51 n k m < 2251799813685248 := chunk_lt 51 n k m
      have m4 : bits BinOp.or IntKind.u64 (chunk 51 n k m : Int) (t : Int) = (chunk 51 n (k + 1) m : Int) := by
        rw [u64_or_nat _ _ (by omega) (by omega), hm, chunk_here _ _ _ (by omega), ← hm, ← hs, ht, hz']
      clear hvs hz' hy ht hye
      have HK := Lib.hid (show m = k / 51 from hm)
      clear hq hr hm hs
      have HBIT := Lib.hid hbit
      clear hbit
      go_upto_region 9 with fail
      go_still_tail 21, (by kernel_rfl)
      change wpList _ _ _ _ _ wa.drew
      go_wp2_with fail
      refine ⟨⟨k + 1, by omega, by go_num, (hB.setCell (by simp) _).drew, by simpa using hz, ?_, ?_⟩, by simp [intOf]; omega⟩
      · exact (heap_setCell_other wa _ _ _ (by simp)).trans hR
      · rw [← lArr_set n k, ← HK.out]
        exact heap_setCell_same wa _ _ _ _ _ hX
    · obtain rfl : k = 255 := by omega
      have HB : ∀ w, Calls Try.prog 60 #[.agg (lArr n 255)] w fun e w' => e = .returned (.agg (bArr ((L5.of n).val % P25) 255)) ∧ Below w.heap.size w w' := by
        have h3 : (L5.of n).lt 9223372036854775808 := by
          obtain ⟨h1, h2, h3, h4, h5⟩ := of_lt n
          exact ⟨by omega, by omega, by omega, by omega, by omega⟩
        rw [lArr_v]; exact fun w => bytes_any (L5.of n) w h3
      have HE : ∀ w, (Op.equalIn 10000 40 (.agg (bArr ((L5.of n).val % P25) 255)) (.agg (lCells l).toArray)).run Try.prog w = .ok r w := by
        rw [HR.out, HN.out]; exact eql_get l HL.out
      have hbw : b < wa.heap.size := by omega
      have hrg : wa.rangeAt b o (lCells l) := fun j v hv => by
        have hj : j < 32 := by
          rcases Nat.lt_or_ge j 32 with h' | h'
          · exact h'
          · simp [lCells, List.getElem?_eq_none (show l.length ≤ j by have := HL.out; omega)] at hv
        rw [(hB.cell (p := ⟨b, o + j, none⟩) hb), HC.out j hj]
        have := HL.out
        simp [lCells, show j < l.length by omega] at hv
        rw [← hv]
        simp [List.getD_eq_getElem?_getD, show j < l.length by omega]
      have hlc : (lCells l).length = 32 := by simp [lCells, HL.out]
      generalize bArr ((L5.of n).val % P25) 255 = C at HB HE
      have HB' := Lib.hid HB
      have HE' := Lib.hid HE
      have HG := Lib.hid hrg
      have HLC := Lib.hid hlc
      clear HB HE hrg hlc
      generalize lCells l = D at HE' HG HLC
      go_upto_region 11 with fail
      refine wp_region_made wa.heap.size wa rfl (by kernel_rfl) (Below.refl _ _) ?_
      refine wpQ_load_row rfl 27 _ rfl _ (by rfl) _ _ _ _ hX (by omega) Try.underlying27 rfl (by kernel_rfl) ?_
      refine wpQ_call rfl 60 _ (fun w => by simp [go_sem, Act.put]) _ (Nat.le_refl _) HB'.out ?_
      refine wpQ_move rfl _ (.inr rfl) ?_
      refine wpQ_run rfl (.pointer (some ⟨b, o, none⟩)) (fun w _ => by simp [go_sem, Act.put, Instr.arrayAt]) ?_
      refine wpQ_load_mid rfl 40 _ rfl b o (by rfl) D _ HG.out hbw Try.underlying40 rfl (by rw [HLC.out]; kernel_rfl) ?_
      refine wpQ_run rfl (.bool (!r)) (fun w _ => by simp [go_sem, HE'.out, Act.put]) ?_
      intro w' hb1
      simp only [Act.put, List.setIfInBounds_toArray, List.set_cons_zero, List.set_cons_succ]
      have hR' := (hb1.block _ (by omega)).trans hR
      have hX' := (hb1.block _ (by omega)).trans hX
      have hB' := hB.trans (hb1.mono (by omega))
      clear HB' HE' HG HLC hR hX hB
      have hlv : lArr n 255 = #[.int .u64 (L5.of n).a, .int .u64 (L5.of n).b, .int .u64 (L5.of n).c, .int .u64 (L5.of n).d, .int .u64 (L5.of n).e] := by rw [lArr_lit, of_chunks]
      rw [hlv] at hX'
      obtain ⟨X, hXe⟩ : ∃ X, X = L5.of n := ⟨_, rfl⟩
      rw [← hXe] at hX'
      have HXE := Lib.hid hXe
      clear hXe hlv
      obtain ⟨xa, xb, xc, xd, xe⟩ := X
      dsimp only at hX'
      have ga0 := cell_of_row w' _ 0 _ _ _ hX'
      have ga1 := cell_of_row w' _ 1 _ _ _ hX'
      have ga2 := cell_of_row w' _ 2 _ _ _ hX'
      have ga3 := cell_of_row w' _ 3 _ _ _ hX'
      have ga4 := cell_of_row w' _ 4 _ _ _ hX'
      have gb0 := cell_of_row w' _ 0 _ _ _ hR'
      have gb1 := cell_of_row w' _ 1 _ _ _ hR'
      have gb2 := cell_of_row w' _ 2 _ _ _ hR'
      have gb3 := cell_of_row w' _ 3 _ _ _ hR'
      have gb4 := cell_of_row w' _ 4 _ _ _ hR'
      have fa0 := frozen_of_row w' _ 0 _ _ hR'
      have fa1 := frozen_of_row w' _ 1 _ _ hR'
      have fa2 := frozen_of_row w' _ 2 _ _ hR'
      have fa3 := frozen_of_row w' _ 3 _ _ hR'
      have fa4 := frozen_of_row w' _ 4 _ _ hR'
      simp only [List.getElem?_toArray, List.getElem?_cons_zero, List.getElem?_cons_succ] at ga0 ga1 ga2 ga3 ga4 gb0 gb1 gb2 gb3 gb4
      clear hX' hR'
      cases r
      · go_wp2_with fail
        exact bodyPost_ret (v := .tuple #[.agg #[.int .u64 0, .int .u64 0, .int .u64 0, .int .u64 0, .int .u64 0], .int .i64 6]) (by simp [results, Try.results19, go_sem, gb0, gb1, gb2, gb3, gb4]) rfl ⟨rfl, by
          repeat (first | exact hB' | refine Below.setCell ?_ (by simp) _)⟩
      · go_wp2_with fail
        exact bodyPost_ret (v := .tuple #[.agg #[.int .u64 xa, .int .u64 xb, .int .u64 xc, .int .u64 xd, .int .u64 xe], .int .i64 0]) (by simp [results, Try.results19, go_sem, gb0, gb1, gb2, gb3, gb4]) rfl ⟨by
          rw [show (bif true then L5.of n else L5.zero) = L5.of n from rfl, ← HXE.out]; rfl, by
          repeat (first | exact hB' | refine Below.setCell ?_ (by simp) _)⟩
end Go.Proofs.Ytddgkoheihlbdaa

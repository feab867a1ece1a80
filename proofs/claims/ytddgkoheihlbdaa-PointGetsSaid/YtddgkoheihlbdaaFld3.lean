/- field: Bytes: what it computes. -/
import Derived.Test.YtddgkoheihlbdaaFld2
import Derived.Test.YtddgkoheihlbdaaFldMath2
import Derived.Laws.Rows
import Derived.Deep.MidRow
import Derived.StillTailTactics
import Derived.Deep.Cut
namespace Go.Proofs.Ytddgkoheihlbdaa
open Go.RowKit

/-- the cells of an array that holds the lowest i bits of n -/
def bArr (n i : Nat) : Array Value := ((List.range 32).map fun j => Value.int .u8 (byteAt n i j : Nat)).toArray

theorem bArr_size (n i : Nat) : (bArr n i).size = 32 := by simp [bArr]
theorem bArr_get (n i j : Nat) (h : j < 32) : (bArr n i)[j]? = some (.int .u8 (byteAt n i j : Nat)) := by
  simp [bArr, List.getElem?_map, List.getElem?_range h]
theorem bArr_zero (n : Nat) : bArr n 0 = Array.replicate 32 (Value.int .u8 0) := by
  apply Array.ext
  · simp [bArr]
  · intro j h1 h2; simp [bArr, byteAt_zero]
theorem bArr_set (n i : Nat) : (bArr n i).setIfInBounds (i / 8) (.int .u8 (byteAt n (i + 1) (i / 8) : Nat)) = bArr n (i + 1) := by
  apply Array.ext
  · simp [bArr]
  · intro j h1 h2
    simp only [bArr, List.size_toArray, List.length_map, List.length_range] at h2
    rw [Array.getElem_setIfInBounds (by simpa [bArr] using h2)]
    by_cases hj : i / 8 = j
    · subst hj; simp [bArr]
    · rw [if_neg hj]; simp [bArr, byteAt_other n i j (fun e => hj e.symm)]

theorem below_setCells {B b : Nat} {w0 : World} (hB : B ≤ b) : ∀ (vs : List Value) (o : Nat) (w : World), Below B w0 w → Below B w0 (w.setCells b o vs)
  | [], _, _, h => h
  | v :: vs, o, w, h => below_setCells hB vs (o + 1) (w.setCell ⟨b, o, none⟩ v) (h.setCell hB v)

theorem results_cell_mid {P : Program} {fn : Func} {p : Tmp} {ty : TypeId} (h : fn.results = #[.cell p ty]) (tmps : Array Value) (w : World) (g : Nat) (cs : List Value) (d : TypeDesc)
    (hp : tmps.getD p undef = .pointer (some ⟨g, 0, none⟩)) (hc : w.rangeAt g 0 cs)
    (hu : P.underlying ty = some d) (hd : d.isRow = true) (hi : (P.info? ty).map (·.size) = some cs.length) :
    (results fn tmps).run P w = .ok (.agg cs.toArray) w := by
  have hp' : tmps[p]?.getD undef = .pointer (some ⟨g, 0, none⟩) := by simpa using hp
  simp [results, h, hp', asAddr, run_loadVar_mid w g 0 ty cs d hc hu hd hi]

set_option maxRecDepth 100000 in
set_option maxHeartbeats 2000000 in
theorem bytes_any (x : L5) (w : World) (h : x.lt 9223372036854775808) :
    Calls Try.prog 60 #[x.v] w fun e w' => e = .returned (.agg (bArr (x.val % P25) 255)) ∧ Below w.heap.size w w' := by
  obtain ⟨hr1, hr2⟩ := red_ok x h
  obtain ⟨y, hy⟩ : ∃ y, y = x.red := ⟨_, rfl⟩
  rw [← hy] at hr1 hr2
  rw [← hr2]
  have HY := Lib.hid hy
  have HR := Lib.hid hr1
  have HB := Lib.hid h
  clear hy hr1 hr2 h
  obtain ⟨N, hN⟩ : ∃ N, N = y.val := ⟨_, rfl⟩
  rw [← hN]
  have HN := Lib.hid hN
  clear hN
  obtain ⟨x0, y0, z0, u0, v0⟩ := x
  go_enter Try.func60, Try.ntmps60
  go_wp2_with fail
  refine (reduced_any ⟨x0, y0, z0, u0, v0⟩ _ HB.out).mono ?_
  rintro q w1 ⟨rfl, hb1⟩
  rw [← HY.out]
  have hX : w1.heap[w.heap.size]? = some (.cells #[.int .u64 x0, .int .u64 y0, .int .u64 z0, .int .u64 u0, .int .u64 v0] 27 (0, 0)) := by
    rw [hb1.block _ (by simp; omega)]; exact heap_alloc2_old _ _ _
  have hR : w1.heap[w.heap.size + 1]? = some (.cells (bArr 0 0) 40 (0, 0)) := by
    rw [hb1.block _ (by simp), bArr_zero]; exact heap_alloc2_new _ _ _
  have hz1 : w.heap.size + 1 < w1.heap.size := by have := hb1.size; simp at this; omega
  have hz2 : w.heap.size < w1.heap.size := by omega
  have hW1 := (((Below.refl w.heap.size w).alloc (Nat.le_refl _) _).alloc (by simp) _).trans (hb1.mono (by simp; omega))
  clear hb1
  have ga0 := cell_of_row w1 _ 0 _ _ _ hX
  have ga1 := cell_of_row w1 _ 1 _ _ _ hX
  have ga2 := cell_of_row w1 _ 2 _ _ _ hX
  have ga3 := cell_of_row w1 _ 3 _ _ _ hX
  have ga4 := cell_of_row w1 _ 4 _ _ _ hX
  have fa0 := frozen_of_row w1 _ 0 _ _ hX
  have fa1 := frozen_of_row w1 _ 1 _ _ hX
  have fa2 := frozen_of_row w1 _ 2 _ _ hX
  have fa3 := frozen_of_row w1 _ 3 _ _ hX
  have fa4 := frozen_of_row w1 _ 4 _ _ hX
  simp only [List.getElem?_toArray, List.getElem?_cons_zero, List.getElem?_cons_succ] at ga0 ga1 ga2 ga3 ga4
  obtain ⟨ya, yb, yc, yd, ye⟩ := y
  dsimp only [L5.v]
  go_wp2_with fail
  have hW2 : Below w.heap.size w ((((((w1.setCell ⟨w.heap.size, 0, none⟩ (.int .u64 ya)).setCell ⟨w.heap.size, 1, none⟩ (.int .u64 yb)).setCell ⟨w.heap.size, 2, none⟩ (.int .u64 yc)).setCell ⟨w.heap.size, 3, none⟩ (.int .u64 yd)).setCell ⟨w.heap.size, 4, none⟩ (.int .u64 ye)).alloc (.cells (bArr N 0) 40)) :=
    (((((hW1.setCell (Nat.le_refl _) _).setCell (Nat.le_refl _) _).setCell (Nat.le_refl _) _).setCell (Nat.le_refl _) _).setCell (Nat.le_refl _) _).alloc (by simp; omega) _
  have hX2 : ((((((w1.setCell ⟨w.heap.size, 0, none⟩ (.int .u64 ya)).setCell ⟨w.heap.size, 1, none⟩ (.int .u64 yb)).setCell ⟨w.heap.size, 2, none⟩ (.int .u64 yc)).setCell ⟨w.heap.size, 3, none⟩ (.int .u64 yd)).setCell ⟨w.heap.size, 4, none⟩ (.int .u64 ye)).alloc (.cells (bArr N 0) 40)).heap[w.heap.size]? = some (.cells #[.int .u64 ya, .int .u64 yb, .int .u64 yc, .int .u64 yd, .int .u64 ye] 27 (0, 0)) := by
    rw [heap_alloc_old _ _ (by simp; omega)]
    exact heap_setCell_same _ _ _ _ _ _ (heap_setCell_same _ _ _ _ _ _ (heap_setCell_same _ _ _ _ _ _ (heap_setCell_same _ _ _ _ _ _ (heap_setCell_same _ _ _ _ _ _ hX))))
  have hR2 : ((((((w1.setCell ⟨w.heap.size, 0, none⟩ (.int .u64 ya)).setCell ⟨w.heap.size, 1, none⟩ (.int .u64 yb)).setCell ⟨w.heap.size, 2, none⟩ (.int .u64 yc)).setCell ⟨w.heap.size, 3, none⟩ (.int .u64 yd)).setCell ⟨w.heap.size, 4, none⟩ (.int .u64 ye)).alloc (.cells (bArr N 0) 40)).heap[w.heap.size + 1]? = some (.cells (bArr 0 0) 40 (0, 0)) := by
    rw [heap_alloc_old _ _ (by simp; omega)]
    rw [heap_setCell_other _ _ _ _ (by simp), heap_setCell_other _ _ _ _ (by simp), heap_setCell_other _ _ _ _ (by simp), heap_setCell_other _ _ _ _ (by simp), heap_setCell_other _ _ _ _ (by simp)]
    exact hR
  have hO2 : ((((((w1.setCell ⟨w.heap.size, 0, none⟩ (.int .u64 ya)).setCell ⟨w.heap.size, 1, none⟩ (.int .u64 yb)).setCell ⟨w.heap.size, 2, none⟩ (.int .u64 yc)).setCell ⟨w.heap.size, 3, none⟩ (.int .u64 yd)).setCell ⟨w.heap.size, 4, none⟩ (.int .u64 ye)).alloc (.cells (bArr N 0) 40)).heap[w1.heap.size]? = some (.cells (bArr N 0) 40 (0, 0)) := by
    have e : (((((w1.setCell ⟨w.heap.size, 0, none⟩ (.int .u64 ya)).setCell ⟨w.heap.size, 1, none⟩ (.int .u64 yb)).setCell ⟨w.heap.size, 2, none⟩ (.int .u64 yc)).setCell ⟨w.heap.size, 3, none⟩ (.int .u64 yd)).setCell ⟨w.heap.size, 4, none⟩ (.int .u64 ye)).heap.size = w1.heap.size := by simp
    rw [← e]; exact heap_alloc_new _ _
  rw [bArr_zero N] at hW2 hX2 hR2
  have hO3 := hO2
  rw [bArr_zero N] at hO3
  clear hO2
  generalize hW : ((((((w1.setCell ⟨w.heap.size, 0, none⟩ (.int .u64 ya)).setCell ⟨w.heap.size, 1, none⟩ (.int .u64 yb)).setCell ⟨w.heap.size, 2, none⟩ (.int .u64 yc)).setCell ⟨w.heap.size, 3, none⟩ (.int .u64 yd)).setCell ⟨w.heap.size, 4, none⟩ (.int .u64 ye)).alloc (.cells (Array.replicate 32 (Value.int .u8 0)) 40)) = W2 at hW2 hX2 hR2 hO3
  change Code.wp _ _ _ _ ((((((w1.setCell ⟨w.heap.size, 0, none⟩ (.int .u64 ya)).setCell ⟨w.heap.size, 1, none⟩ (.int .u64 yb)).setCell ⟨w.heap.size, 2, none⟩ (.int .u64 yc)).setCell ⟨w.heap.size, 3, none⟩ (.int .u64 yd)).setCell ⟨w.heap.size, 4, none⟩ (.int .u64 ye)).alloc (.cells (Array.replicate 32 (Value.int .u8 0)) 40))
  rw [hW]
  rw [← bArr_zero N] at hO3
  clear hW hX hR hW1 ga0 ga1 ga2 ga3 ga4 fa0 fa1 fa2 fa3 fa4
  generalize w1.heap.size = O at *
  go_loopw [7] (fun i wr => ∃ k : Nat, k ≤ 256 ∧ i = .int .i64 k ∧ Below w.heap.size w wr ∧ wr.heap[w.heap.size]? = some (.cells #[.int .u64 ya, .int .u64 yb, .int .u64 yc, .int .u64 yd, .int .u64 ye] 27 (0, 0)) ∧ wr.heap[w.heap.size + 1]? = some (.cells (bArr 0 0) 40 (0, 0)) ∧ wr.heap[O]? = some (.cells (bArr N (min k 255)) 40 (0, 0))) (fun i _ => 256 - (intOf i).toNat)
  case atStart => exact ⟨0, by omega, rfl, hW2, hX2, hR2, hO3⟩
  case round =>
    obtain ⟨wa, rfl⟩ : ∃ wa : World, wa = wr := ⟨_, rfl⟩
    obtain ⟨k, hk, rfl, hB, hX, hR, hO⟩ := hrel
    clear hW2 hX2 hR2 hO3
    by_cases hlt : k < 256
    · by_cases hlt2 : k < 255
      · rw [Nat.min_eq_left (by omega)] at hO
        obtain ⟨q, hq⟩ : ∃ q, q = k / 8 := ⟨_, rfl⟩
        obtain ⟨r, hr⟩ : ∃ r, r = k % 8 := ⟨_, rfl⟩
        obtain ⟨l, hl⟩ : ∃ l, l = k / 51 := ⟨_, rfl⟩
        obtain ⟨s, hs⟩ : ∃ s, s = k % 51 := ⟨_, rfl⟩
        have i1 : (k : Int).tdiv 8 = (q : Int) := by rw [Int.tdiv_eq_ediv_of_nonneg (by omega)]; omega
        have i2 : (k : Int).tmod 8 = (r : Int) := by rw [Int.tmod_eq_emod_of_nonneg (by omega)]; omega
        have i3 : (k : Int).tdiv 51 = (l : Int) := by rw [Int.tdiv_eq_ediv_of_nonneg (by omega)]; omega
        have i4 : (k : Int).tmod 51 = (s : Int) := by rw [Int.tmod_eq_emod_of_nonneg (by omega)]; omega
        have j1 : (k : Int) / 8 = (q : Int) := by omega
        have j2 : (k : Int) % 8 = (r : Int) := by omega
        have j3 : (k : Int) / 51 = (l : Int) := by omega
        have j4 : (k : Int) % 51 = (s : Int) := by omega
        have hq31 : q < 32 := by omega
        have hl5 : l < 5 := by omega
        have hr8 : r < 8 := by omega
        have hs51 : s < 51 := by omega
        have go := (cell_of_row wa O q _ _ _ hO).trans (bArr_get N k q hq31)
        have fo := frozen_of_row wa O q _ _ hO
        obtain ⟨v, hv⟩ : ∃ v, v = L5.at ⟨ya, yb, yc, yd, ye⟩ l := ⟨_, rfl⟩
        have gx : wa.cell? ⟨w.heap.size, l, none⟩ = some (.int .u64 v) := by
          rw [cell_of_row wa _ l _ _ _ hX, hv]
          match l, hl5 with
          | 0, _ => rfl
          | 1, _ => rfl
          | 2, _ => rfl
          | 3, _ => rfl
          | 4, _ => rfl
        have hbit : v / 2 ^ s % 2 = bitAt N k := by rw [hv, hl, hs, HN.out]; exact bit_of_limb _ HR.out k hlt2
        have k1 : IntKind.i64.wrap (q : Int) = (q : Int) := by rw [IntKind.wrap_i64]; omega
        have k2 : IntKind.i64.wrap (r : Int) = (r : Int) := by rw [IntKind.wrap_i64]; omega
        have k3 : IntKind.i64.wrap (l : Int) = (l : Int) := by rw [IntKind.wrap_i64]; omega
        have k4 : IntKind.i64.wrap (s : Int) = (s : Int) := by rw [IntKind.wrap_i64]; omega
        have b1 : (0 : Int) ≤ (q : Int) := by omega
        have b2 : (q : Int) < 32 := by omega
        have b3 : (0 : Int) ≤ (l : Int) := by omega
        have b4 : (l : Int) < 5 := by omega
        have b5 : (0 : Int) ≤ (s : Int) := by omega
        have b6 : (0 : Int) ≤ (r : Int) := by omega
        have hv51 : v < 2251799813685248 := by
          have := HR.out
          obtain ⟨h1, h2, h3, h4, h5⟩ := this
          simp only at h1 h2 h3 h4 h5
          rw [hv]
          match l, hl5 with
          | 0, _ => exact h1
          | 1, _ => exact h2
          | 2, _ => exact h3
          | 3, _ => exact h4
          | 4, _ => exact h5
        have hvs : v / 2 ^ s < 2251799813685248 := Nat.lt_of_le_of_lt (Nat.div_le_self _ _) hv51
        obtain ⟨z, hz⟩ : ∃ z, z = bitAt N k := ⟨_, rfl⟩
        have hzz : z < 2 := by rw [hz]; exact bitAt_lt _ _
        have m1 : bits BinOp.and IntKind.u64 ((v : Int) / 2 ^ s) 1 = (z : Int) := by
          rw [show ((v : Int) / 2 ^ s) = ((v / 2 ^ s : Nat) : Int) by simp, show (1 : Int) = ((1 : Nat) : Int) from rfl, u64_and_nat _ _ (by omega) (by omega), Nat.and_one_is_mod, hbit, hz]
        have m2 : IntKind.u8.wrap (z : Int) = (z : Int) := by rw [IntKind.wrap_u8]; omega
        obtain ⟨t, ht⟩ : ∃ t, t = z * 2 ^ r := ⟨_, rfl⟩
        have ht255 : t < 256 := by
          have h3 : (2 : Nat) ^ r ≤ 2 ^ 7 := Nat.pow_le_pow_right (by omega) (by omega)
          have h4 : z * 2 ^ r ≤ 1 * 2 ^ 7 := Nat.mul_le_mul (by omega) h3
          omega
        have m3 : IntKind.u8.wrap ((z : Int) * 2 ^ r) = (t : Int) := by
          rw [show ((z : Int) * 2 ^ r) = (t : Int) by rw [ht]; simp, IntKind.wrap_u8]; omega
        have hby := byteAt_lt N k q
        have m4 : bits BinOp.or IntKind.u8 (byteAt N k q : Int) (t : Int) = (byteAt N (k + 1) q : Int) := by
          rw [u8_or_nat _ _ (by omega) (by omega), hq, byteAt_here, ← hq, ← hr, ht, hz]
        clear hv51 hvs hz hby ht
        have HK := Lib.hid (show q = k / 8 from hq)
        clear hq hr hl hs hv j1 j2 j3 j4
        have HBIT := Lib.hid hbit
        clear hbit
        go_upto_region 7 with fail
        go_still_tail 18, (by kernel_rfl)
        change wpList _ _ _ _ _ wa.drew
        go_wp2_with fail
        refine ⟨⟨k + 1, by omega, by go_num, (hB.setCell (Nat.le_of_lt hz2) _).drew, ?_, ?_, ?_⟩, by simp [intOf]; omega⟩
        · exact (heap_setCell_other wa _ _ _ (by simp; omega)).trans hX
        · exact (heap_setCell_other wa _ _ _ (by simp; omega)).trans hR
        · rw [Nat.min_eq_left (by omega), ← bArr_set N k, ← HK.out]
          exact heap_setCell_same wa _ _ _ _ _ hO
      · obtain rfl : k = 255 := by omega
        go_wp2_with fail
        refine ⟨⟨256, by omega, by go_num, hB, hX, hR, hO⟩, by simp [intOf]⟩
    · obtain rfl : k = 256 := by omega
      replace hO : wa.heap[O]? = some (.cells (bArr N 255) 40 (0, 0)) := hO
      obtain ⟨C, hC⟩ : ∃ C, C = bArr N 255 := ⟨_, rfl⟩
      obtain ⟨Z, hZ⟩ : ∃ Z, Z = bArr 0 0 := ⟨_, rfl⟩
      have hCs : C.size = 32 := by rw [hC]; exact bArr_size _ _
      have hZs : Z.size = 32 := by rw [hZ]; exact bArr_size _ _
      rw [← hC] at hO
      rw [← hZ] at hR
      have HC := Lib.hid hC
      have HCS := Lib.hid hCs
      have HZS := Lib.hid hZs
      clear hC hCs hZ hZs hX
      go_upto_region 9 with fail
      go_step
      refine wpList_load_row rfl 40 _ rfl O (by rfl) 40 _ _ (.array 32 5) hO (by kernel_rfl) rfl (by rw [HCS.out]; kernel_rfl) ?_
      have ht : wa.there (w.heap.size + 1) 0 C.size := fun j hj => by
        rw [HCS.out] at hj
        refine ⟨?_, ?_⟩
        · rw [Nat.zero_add, cell_of_row wa _ j _ _ _ hR]
          have := HZS.out
          simp [this, hj]
        · exact frozen_of_row wa _ _ _ _ hR
      have h1 : C.all (·.oneCell') = true := by rw [HC.out]; exact all_oneCell_toArray (fun v hv => by simp at hv; obtain ⟨j, _, rfl⟩ := hv; rfl)
      refine wpList_store_mid rfl 40 _ _ rfl (w.heap.size + 1) 0 C (by rfl) (by rfl) ht (by rw [HCS.out]; kernel_rfl) h1 ?_
      have hra := World.rangeAt_setCells_same wa (w.heap.size + 1) 0 C.toList (by rw [Array.length_toList]; exact ht)
      have hB4 := below_setCells (b := w.heap.size + 1) (by omega) C.toList 0 wa hB
      generalize wa.setCells (w.heap.size + 1) 0 C.toList = w4 at hra hB4
      rw [HC.out] at hra
      clear HCS HZS ht h1 hO hR hB hlt hk
      dsimp only [Act.put]
      go_wp2_with fail
      rw [HC.out]
      exact bodyPost_ret (v := .agg (bArr N 255)) (by
        rw [results_cell_mid rfl _ w4 (w.heap.size + 1) (bArr N 255).toList (.array 32 5) rfl hra (by kernel_rfl) rfl (by simp only [bArr, List.length_map, List.length_range]; kernel_rfl)]) rfl ⟨rfl, hB4⟩
end Go.Proofs.Ytddgkoheihlbdaa

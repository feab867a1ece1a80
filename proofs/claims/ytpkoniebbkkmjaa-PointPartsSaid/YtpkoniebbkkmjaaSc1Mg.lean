/- scalar: order, less, put: what they compute. -/
import Derived.Test.YtpkoniebbkkmjaaShelf
import Derived.Test.YtpkoniebbkkmjaaScMathMg
import Derived.Test.YtpkoniebbkkmjaaCellMg
import Derived.Laws.Externs
namespace Go.Proofs.Ytpkoniebbkkmjaa
open Go.RowKit

/-- the cells of four words -/
def wArr (f : Nat → Nat) : Array Value := ((List.range 4).map fun j => Value.int .u64 (f j : Nat)).toArray
theorem wArr_get (f : Nat → Nat) (j : Nat) (h : j < 4) : (wArr f)[j]? = some (.int .u64 (f j : Nat)) := by
  simp [wArr, List.getElem?_map, List.getElem?_range h]
theorem wArr_size (f : Nat → Nat) : (wArr f).size = 4 := by simp [wArr]
theorem wArr_one (f : Nat → Nat) : (wArr f).all (·.oneCell') = true := by unfold wArr; exact all_oneCell_toArray (fun v hv => by simp at hv; obtain ⟨j, _, rfl⟩ := hv; rfl)
theorem wArr_set (f : Nat → Nat) (i v : Nat) : (wArr f).setIfInBounds i (.int .u64 (v : Nat)) = wArr (upd f i v) := by
  apply Array.ext
  · simp [wArr]
  · intro j h1 h2
    simp only [wArr, List.size_toArray, List.length_map, List.length_range] at h2
    rw [Array.getElem_setIfInBounds (by simpa [wArr] using h2)]
    unfold upd
    by_cases hj : i = j
    · subst hj; simp [wArr]
    · rw [if_neg hj]; simp [wArr, show ¬ j = i from fun e => hj e.symm]
theorem wArr_congr {f g : Nat → Nat} (h : ∀ j, j < 4 → f j = g j) : wArr f = wArr g := by
  unfold wArr
  congr 1
  refine List.map_congr_left fun j hj => ?_
  rw [h j (by simpa using hj)]
/-- the first k of the one, the others of the other -/
def mx (f g : Nat → Nat) (k j : Nat) : Nat := if j < k then f j else g j
theorem mx_zero (f g : Nat → Nat) : mx f g 0 = g := by funext j; simp [mx]
theorem mx_here (f g : Nat → Nat) (k : Nat) : mx f g k k = g k := by simp [mx]
theorem mx_step (f g : Nat → Nat) (k : Nat) : upd (mx f g k) k (f k) = mx f g (k + 1) := by
  funext j
  unfold upd mx
  by_cases h : j = k
  · subst h; simp
  · rw [if_neg h]
    by_cases h2 : j < k
    · rw [if_pos h2, if_pos (by omega)]
    · rw [if_neg h2, if_neg (by omega)]
theorem mx_end (f g : Nat → Nat) : wArr (mx f g 4) = wArr f := wArr_congr fun j hj => by unfold mx; rw [if_pos hj]

theorem run_Sub64 (x y b : Nat) (hb : b ≤ 1) (w : World) :
    (callFunc 72 #[.int .u64 x, .int .u64 y, .int .u64 b]).run Try.prog w = .ok (.value (.tuple #[.int .u64 ((x + 18446744073709551616 - y - b) % 18446744073709551616 : Nat), .int .u64 (if x < y + b then 1 else 0 : Nat)])) w := by
  rw [run_callFunc_extern Try.func72 (by kernel_rfl) (by kernel_rfl) (by kernel_rfl) (show _ = some (Extern.MathBitsCarry.rows[1]'(by decide)).2 by rfl) _ w]
  have : b = 0 ∨ b = 1 := by omega
  rcases this with rfl | rfl <;> rfl

theorem wArr_LL : wArr (wd LL) = #[.int .u64 6346243789798364141, .int .u64 1503914060200516822, .int .u64 0, .int .u64 1152921504606846976] := by kernel_rfl

set_option maxRecDepth 100000 in
set_option maxHeartbeats 1000000 in
theorem order_any (w : World) : Calls Try.prog 68 #[] w fun e w' => e = .returned (.agg (wArr (wd LL))) ∧ Below w.heap.size w w' := by
  rw [wArr_LL]
  go_enter Try.func68, Try.ntmps68
  go_wp2_with fail
  exact bodyPost_ret (v := .agg #[.int .u64 6346243789798364141, .int .u64 1503914060200516822, .int .u64 0, .int .u64 1152921504606846976]) (by simp [results, Try.results68, go_sem]) rfl ⟨rfl, by
    repeat (first | exact (Below.refl _ _) | refine Below.alloc ?_ (by simp) _ | refine Below.setCell ?_ (by simp) _)⟩

set_option maxRecDepth 100000 in
set_option maxHeartbeats 4000000 in
theorem less_any (A B : Nat) (w : World) (hA : A < W256) (hB : B < W256) :
    Calls Try.prog 69 #[.agg (wArr (wd A)), .agg (wArr (wd B))] w fun e w' => e = .returned (.tuple #[.agg (wArr (wd (A + W256 - B))), .bool (decide (A < B))]) ∧ Below w.heap.size w w' := by
  have H4 := Lib.hid (bor_four A B hA hB)
  have HSW := Lib.hid (fun k hk => sub_word A B k hk hB)
  obtain ⟨R, hR⟩ : ∃ R, R = A + W256 - B := ⟨_, rfl⟩
  rw [← hR] at HSW ⊢
  clear hR hA hB
  obtain ⟨t, ht⟩ : ∃ t, t = decide (A < B) := ⟨_, rfl⟩
  rw [← ht]
  have HT := Lib.hid ht
  clear ht
  obtain ⟨G, hG⟩ : ∃ G, G = wArr (wd R) := ⟨_, rfl⟩
  rw [← hG]
  have HGS := Lib.hid (show G.size = 4 by rw [hG]; exact wArr_size _)
  have HG1 := Lib.hid (show G.all (·.oneCell') = true by rw [hG]; exact wArr_one _)
  have HG := Lib.hid hG
  clear hG
  obtain ⟨X, hX⟩ : ∃ X, X = wArr (wd A) := ⟨_, rfl⟩
  obtain ⟨Y, hY⟩ : ∃ Y, Y = wArr (wd B) := ⟨_, rfl⟩
  obtain ⟨N, hN⟩ : ∃ N, N = wArr (fun _ => 0) := ⟨_, rfl⟩
  rw [← hX, ← hY]
  have HXE := Lib.hid hX
  have HYE := Lib.hid hY
  have HXS := Lib.hid (show X.size = 4 by rw [hX]; exact wArr_size _)
  have HYS := Lib.hid (show Y.size = 4 by rw [hY]; exact wArr_size _)
  have HNS := Lib.hid (show N.size = 4 by rw [hN]; exact wArr_size _)
  clear hX hY
  go_enter Try.func69, Try.ntmps69
  go_upto_region 1 with fail
  have g0 : Box (((w.alloc (.cells X 79)).alloc (.cells Y 79)).alloc (.cells #[.int .u64 0, .int .u64 0, .int .u64 0, .int .u64 0] 79)) w.heap.size 79 X := ((Box.new _ _ _).alloc _).alloc _
  have g1 : Box (((w.alloc (.cells X 79)).alloc (.cells Y 79)).alloc (.cells #[.int .u64 0, .int .u64 0, .int .u64 0, .int .u64 0] 79)) (w.heap.size + 1) 79 Y := by
    have := (Box.new (w.alloc (.cells X 79)) 79 Y).alloc (.cells #[.int .u64 0, .int .u64 0, .int .u64 0, .int .u64 0] 79)
    simpa using this
  have g2 : Box (((w.alloc (.cells X 79)).alloc (.cells Y 79)).alloc (.cells #[.int .u64 0, .int .u64 0, .int .u64 0, .int .u64 0] 79)) (w.heap.size + 2) 79 N := by
    have := Box.new ((w.alloc (.cells X 79)).alloc (.cells Y 79)) 79 #[.int .u64 0, .int .u64 0, .int .u64 0, .int .u64 0]
    rw [hN]
    simp only [World.size_alloc] at this
    exact this
  have g3 : Below w.heap.size w (((w.alloc (.cells X 79)).alloc (.cells Y 79)).alloc (.cells #[.int .u64 0, .int .u64 0, .int .u64 0, .int .u64 0] 79)) := (((Below.refl w.heap.size w).alloc (Nat.le_refl _) _).alloc (by simp) _).alloc (by simp; omega) _
  clear hN
  generalize (((w.alloc (.cells X 79)).alloc (.cells Y 79)).alloc (.cells #[.int .u64 0, .int .u64 0, .int .u64 0, .int .u64 0] 79)) = W at *
  have hX2 := g0
  have hY2 := g1
  have hN2 := g2
  have hB2 := g3
  clear g0 g1 g2 g3
  rw [HXE.out] at hX2
  go_wp2_with fail
  go_loopw [6, 8] (fun b i wr => ∃ k : Nat, k ≤ 4 ∧ b = .int .u64 (bor A B k : Nat) ∧ i = .int .i64 k ∧ Box wr w.heap.size 79 (wArr (mx (wd R) (wd A) k)) ∧ Box wr (w.heap.size + 1) 79 Y ∧ Box wr (w.heap.size + 2) 79 N ∧ Below w.heap.size w wr) (fun _ i _ => 4 - (intOf i).toNat)
  case atStart => exact ⟨0, by omega, by rw [bor_zero]; rfl, rfl, by rw [mx_zero]; exact hX2, hY2, hN2, hB2⟩
  case round =>
    obtain ⟨wa, rfl⟩ : ∃ wa : World, wa = wr := ⟨_, rfl⟩
    obtain ⟨k, hk, rfl, rfl, hX, hZ, hN, hB⟩ := hrel
    clear hX2 hY2 hN2 hB2
    by_cases hlt : k < 4
    · have gx := hX.cell k (wArr_get _ k hlt)
      rw [mx_here] at gx
      have fx := hX.frozen k
      have hZ' := hZ
      rw [HYE.out] at hZ'
      have gz := hZ'.cell k (wArr_get _ k hlt)
      have bx := wd_lt A k
      have bz := wd_lt B k
      have br := wd_lt R k
      have bb := bor_le A B k
      have hsw := HSW.out k hlt
      have hsub := fun w => run_Sub64 (wd A k) (wd B k) (bor A B k) bb w
      have bc := bor_le A B (k + 1)
      have HS' := Lib.hid (mx_step (wd R) (wd A) k)
      have e1 : (wd A k + 18446744073709551616 - wd B k - bor A B k) % 18446744073709551616 = wd R k := by omega
      have e2 : (if wd A k < wd B k + bor A B k then 1 else 0) = bor A B (k + 1) := by split <;> omega
      simp only [e1, e2] at hsub
      clear e1 e2 hsw bx bz br bb bc hZ'
      obtain ⟨u, hu⟩ : ∃ u, u = wd A k := ⟨_, rfl⟩
      obtain ⟨v, hv⟩ : ∃ v, v = wd B k := ⟨_, rfl⟩
      obtain ⟨r, hr⟩ : ∃ r, r = wd R k := ⟨_, rfl⟩
      obtain ⟨b, hb⟩ : ∃ b, b = bor A B k := ⟨_, rfl⟩
      obtain ⟨b', hb'⟩ : ∃ b', b' = bor A B (k + 1) := ⟨_, rfl⟩
      rw [← hu] at gx hsub
      rw [← hv] at gz hsub
      rw [← hr] at hsub HS'
      rw [← hb'] at hsub
      rw [← hb] at hsub ⊢
      have HB' := Lib.hid hb'
      have HU := Lib.hid hu.symm
      have b5 : (0 : Int) ≤ (k : Int) := by omega
      have b6 : (k : Int) < 4 := by omega
      have b7 : IntKind.i64.wrap (k : Int) = (k : Int) := by rw [IntKind.wrap_i64]; omega
      clear hu hv hr hb hb'
      go_upto_region 5 with fail
      have hKS : Keeps (fun w' : World => w'.cell? ⟨w.heap.size + 1, k, none⟩ = some (.int .u64 v)) := fun w w' h b => (b.cell (cell_lt h)).trans h
      refine wp_region_U (w := wa) (fun w' : World => w'.cell? ⟨w.heap.size + 1, k, none⟩ = some (.int .u64 v)) rfl gz ?_
      have hX' : Box wa.drew w.heap.size 79 (wArr (mx (wd R) (wd A) k)) := hX.drew
      refine wpU_val 0 hKS rfl (by kernel_rfl) (by kernel_rfl) (by kernel_rfl) rfl (fun _ _ _ _ h => h) (.int .i64 k) (fun w' h => by simp [go_sem]) ?_
      simp only [Act.put, List.setIfInBounds_toArray, List.set_cons_zero, List.set_cons_succ]
      refine wpU_val 1 hKS rfl (by kernel_rfl) (by kernel_rfl) (by kernel_rfl) rfl (fun _ _ _ _ h => h) (.int .i64 k) (fun w' h => by simp [go_sem]) ?_
      simp only [Act.put, List.setIfInBounds_toArray, List.set_cons_zero, List.set_cons_succ]
      refine wpU_val 2 hKS rfl (by kernel_rfl) (by kernel_rfl) (by kernel_rfl) rfl (fun _ _ _ _ h => h) (.pointer (some ⟨w.heap.size, k, none⟩)) (fun w' h => by simp [go_sem, b5, b6]) ?_
      simp only [Act.put, List.setIfInBounds_toArray, List.set_cons_zero, List.set_cons_succ]
      refine wpU_val 4 hKS rfl (by kernel_rfl) (by kernel_rfl) (by kernel_rfl) rfl (fun _ _ _ _ h => h) (.int .i64 k) (fun w' h => by simp [go_sem]) ?_
      simp only [Act.put, List.setIfInBounds_toArray, List.set_cons_zero, List.set_cons_succ]
      refine wpU_val 5 hKS rfl (by kernel_rfl) (by kernel_rfl) (by kernel_rfl) rfl (fun _ _ _ _ h => h) (.pointer (some ⟨w.heap.size + 1, k, none⟩)) (fun w' h => by simp [go_sem, b5, b6]) ?_
      simp only [Act.put, List.setIfInBounds_toArray, List.set_cons_zero, List.set_cons_succ]
      refine wpU_val 6 hKS rfl (by kernel_rfl) (by kernel_rfl) (by kernel_rfl) rfl (fun _ _ _ _ h => h) (.int .u64 v) (fun w' h => by simp [go_sem, h]) ?_
      simp only [Act.put, List.setIfInBounds_toArray, List.set_cons_zero, List.set_cons_succ]
      refine wpU_val 7 hKS rfl (by kernel_rfl) (by kernel_rfl) (by kernel_rfl) rfl (fun _ _ _ _ h => h) (.int .u64 b) (fun w' h => by simp [go_sem]) ?_
      simp only [Act.put, List.setIfInBounds_toArray, List.set_cons_zero, List.set_cons_succ]
      refine wpU_oneval 3 rfl (by kernel_rfl) rfl (.int .u64 u) (fun w1 b1 s1 => by have gx1 := (hX'.after b1).cell k (wArr_get _ k hlt); rw [mx_here, HU.out] at gx1; simp [go_sem, gx1]) ?_
      simp only [Act.put, List.setIfInBounds_toArray, List.set_cons_zero, List.set_cons_succ]
      refine wpU_val 8 hKS rfl (by kernel_rfl) (by kernel_rfl) (by kernel_rfl) rfl (fun _ _ _ _ h => h) (.tuple #[.int .u64 r, .int .u64 b']) (fun w' h => by simp [go_sem, hsub]) ?_
      simp only [Act.put, List.setIfInBounds_toArray, List.set_cons_zero, List.set_cons_succ]
      refine wpU_val 9 hKS rfl (by kernel_rfl) (by kernel_rfl) (by kernel_rfl) rfl (fun _ _ _ _ h => h) (.tuple #[.int .u64 r, .int .u64 b']) (fun w' h => by simp [go_sem]) ?_
      simp only [Act.put, List.setIfInBounds_toArray, List.set_cons_zero, List.set_cons_succ]
      refine wpU_val 10 hKS rfl (by kernel_rfl) (by kernel_rfl) (by kernel_rfl) rfl (fun _ _ _ _ h => h) (.int .u64 r) (fun w' h => by simp [go_sem]) ?_
      simp only [Act.put, List.setIfInBounds_toArray, List.set_cons_zero, List.set_cons_succ]
      refine wpU_val 11 hKS rfl (by kernel_rfl) (by kernel_rfl) (by kernel_rfl) rfl (fun _ _ _ _ h => h) (.int .u64 b') (fun w' h => by simp [go_sem]) ?_
      simp only [Act.put, List.setIfInBounds_toArray, List.set_cons_zero, List.set_cons_succ]
      refine wpU_val 12 hKS rfl (by kernel_rfl) (by kernel_rfl) (by kernel_rfl) rfl (fun _ _ _ _ h => h) (.pointer (some ⟨w.heap.size, k, none⟩)) (fun w' h => by simp [go_sem, b5, b6]) ?_
      simp only [Act.put, List.setIfInBounds_toArray, List.set_cons_zero, List.set_cons_succ]
      refine wpU_store_cell 13 rfl (by kernel_rfl) rfl 24 (.tmp 23) (.tmp 21) rfl hX' k (k := .u64) (n := r) (by simp [go_sem]) (by simp [go_sem]) (by rw [wArr_size]; exact hlt) (fun w => by simp [go_sem]) ?_
      intro w1 w2 b1 s1 hX2 st2
      refine ⟨?_, ?_⟩
      · rw [← s1]; unfold World.cell?; rw [st2.other _ (by simp)]
      simp only [Act.put]
      refine wpU_oneval 14 rfl (by kernel_rfl) rfl (.int .u64 b') (fun w1 b1 s1 => by simp [go_sem]) ?_
      simp only [Act.put, List.setIfInBounds_toArray, List.set_cons_zero, List.set_cons_succ]
      refine wpU_done (by kernel_rfl) ?_
      intro w3 b3 s3
      have hX3 := hX2.after b3
      have hZ3 := (st2.box (hZ.drew.after b1) (by simp)).after b3
      have hN3 := (st2.box (hN.drew.after b1) (by simp)).after b3
      have hB3 := (st2.below w.heap.size w (Nat.le_refl _) (hB.drew.trans (b1.mono hB.size))).trans (b3.mono (by rw [st2.size]; exact Nat.le_trans hB.size b1.size))
      rw [wArr_set, HS'.out] at hX3
      clear b3 s3 hX2 st2 b1 s1 hX' hKS hX hZ hN hB gx gz fx
      go_wp2_with fail
      exact ⟨⟨k + 1, by omega, by rw [HB'.out], by go_num, hX3, hZ3, hN3, hB3⟩, by simp [intOf]; omega⟩
    · obtain rfl : k = 4 := by omega
      rw [mx_end, ← HG.out] at hX
      have h4 := H4.out
      obtain ⟨b, hb⟩ : ∃ b, b = bor A B 4 := ⟨_, rfl⟩
      rw [← hb] at h4 ⊢
      have hgt : decide (0 < b) = t := by
        rw [HT.out, h4]; split <;> simp_all
      clear hb h4
      go_upto_region 7 with fail
      go_step
      refine wpList_load_box rfl 79 _ rfl hX (by rfl) Try.underlying79 rfl (by rw [HGS.out]; kernel_rfl) ?_
      refine wpList_value rfl (.int .u64 b) (by simp [go_sem, Act.put]) ?_
      refine wpList_value rfl (.bool t) (by simp [go_sem, Act.put, hgt]) ?_
      refine wpList_store_box rfl 79 _ _ rfl hN (by rfl) (by rfl) (by rw [HNS.out, HGS.out]) (by rw [HGS.out]; kernel_rfl) HG1.out ?_
      intro w4 hR4 hst
      have hB4 := hst.below w.heap.size w (by omega) hB
      simp only [Act.put, List.setIfInBounds_toArray, List.set_cons_zero, List.set_cons_succ]
      clear hst hX hZ hN hB
      go_wp2_with fail
      refine bodyPost_ret (box_result2 rfl _ _ ?_ hR4 Try.underlying79 rfl (by rw [HGS.out]; kernel_rfl)) rfl ⟨rfl, hB4⟩
      rfl

theorem lCells_leBytes_get (n k j : Nat) (h : j < k) : (lCells (leBytes n k)).toArray[j]? = some (.int .u8 (n / 256 ^ j % 256 : Nat)) := by
  have : n / 256 ^ j % 256 < 256 := Nat.mod_lt _ (by omega)
  simp [lCells, leBytes, h]
/-- the cells of 32 bytes -/
def vArr (f : Nat → Nat) : Array Value := ((List.range 32).map fun j => Value.int .u8 (f j : Nat)).toArray
theorem vArr_get (f : Nat → Nat) (j : Nat) (h : j < 32) : (vArr f)[j]? = some (.int .u8 (f j : Nat)) := by
  simp [vArr, List.getElem?_map, List.getElem?_range h]
theorem vArr_size (f : Nat → Nat) : (vArr f).size = 32 := by simp [vArr]
theorem vArr_one (f : Nat → Nat) : (vArr f).all (·.oneCell') = true := by unfold vArr; exact all_oneCell_toArray (fun v hv => by simp at hv; obtain ⟨j, _, rfl⟩ := hv; rfl)
theorem vArr_set (f : Nat → Nat) (i v : Nat) : (vArr f).setIfInBounds i (.int .u8 (v : Nat)) = vArr (upd f i v) := by
  apply Array.ext
  · simp [vArr]
  · intro j h1 h2
    simp only [vArr, List.size_toArray, List.length_map, List.length_range] at h2
    rw [Array.getElem_setIfInBounds (by simpa [vArr] using h2)]
    unfold upd
    by_cases hj : i = j
    · subst hj; simp [vArr]
    · rw [if_neg hj]; simp [vArr, show ¬ j = i from fun e => hj e.symm]
/-- byte j of a number -/
def byN (n j : Nat) : Nat := n / 256 ^ j % 256
theorem byN_lt (n j : Nat) : byN n j < 256 := Nat.mod_lt _ (by omega)
theorem vArr_bytes (n : Nat) : vArr (mx (byN n) (fun _ => 0) 32) = (lCells (leBytes n 32)).toArray := by
  apply Array.ext
  · simp [vArr, lCells, leBytes]
  · intro j h1 h2
    have hj : j < 32 := by simpa [vArr] using h1
    have := lCells_leBytes_get n 32 j hj
    rw [Array.getElem?_eq_getElem h2] at this
    rw [Option.some.inj this]
    simp [vArr, mx, hj, byN]
/-- a number's 32 bytes, as cells -/
def bts_s (n : Nat) : Array Value := (lCells (leBytes n 32)).toArray

set_option maxRecDepth 100000 in
set_option maxHeartbeats 4000000 in
theorem put_any (n : Nat) (w : World) :
    Calls Try.prog 53 #[.agg (wArr (wd n))] w fun e w' => e = .returned (.agg (bts_s n)) ∧ Below w.heap.size w w' := by
  unfold bts_s
  rw [← vArr_bytes]
  obtain ⟨G, hG⟩ : ∃ G, G = vArr (mx (byN n) (fun _ => 0) 32) := ⟨_, rfl⟩
  rw [← hG]
  have HGS := Lib.hid (show G.size = 32 by rw [hG]; exact vArr_size _)
  have HG1 := Lib.hid (show G.all (·.oneCell') = true by rw [hG]; exact vArr_one _)
  have HG := Lib.hid hG
  clear hG
  obtain ⟨X, hX⟩ : ∃ X, X = wArr (wd n) := ⟨_, rfl⟩
  obtain ⟨Z, hZ⟩ : ∃ Z, Z = vArr (fun _ => 0) := ⟨_, rfl⟩
  rw [← hX]
  have HXE := Lib.hid hX
  have HZS := Lib.hid (show Z.size = 32 by rw [hZ]; exact vArr_size _)
  clear hX
  go_enter Try.func53, Try.ntmps53
  go_upto_region 2 with fail
  have e0 : vArr (fun _ => 0) = #[Value.int .u8 0, Value.int .u8 0, Value.int .u8 0, Value.int .u8 0, Value.int .u8 0, Value.int .u8 0, Value.int .u8 0, Value.int .u8 0, Value.int .u8 0, Value.int .u8 0, Value.int .u8 0, Value.int .u8 0, Value.int .u8 0, Value.int .u8 0, Value.int .u8 0, Value.int .u8 0, Value.int .u8 0, Value.int .u8 0, Value.int .u8 0, Value.int .u8 0, Value.int .u8 0, Value.int .u8 0, Value.int .u8 0, Value.int .u8 0, Value.int .u8 0, Value.int .u8 0, Value.int .u8 0, Value.int .u8 0, Value.int .u8 0, Value.int .u8 0, Value.int .u8 0, Value.int .u8 0] := by kernel_rfl
  have hZ' := hZ
  rw [e0] at hZ'
  rw [← hZ']
  have g0 : Box (((w.alloc (.cells X 79)).alloc (.cells Z 39)).alloc (.cells Z 39)) w.heap.size 79 X := ((Box.new _ _ _).alloc _).alloc _
  have g1 : Box (((w.alloc (.cells X 79)).alloc (.cells Z 39)).alloc (.cells Z 39)) (w.heap.size + 1) 39 Z := by
    have := (Box.new (w.alloc (.cells X 79)) 39 Z).alloc (.cells Z 39)
    simpa using this
  have g2 : Box (((w.alloc (.cells X 79)).alloc (.cells Z 39)).alloc (.cells Z 39)) (w.heap.size + 2) 39 Z := by
    have := Box.new ((w.alloc (.cells X 79)).alloc (.cells Z 39)) 39 Z
    simp only [World.size_alloc] at this
    exact this
  have g3 : Below w.heap.size w (((w.alloc (.cells X 79)).alloc (.cells Z 39)).alloc (.cells Z 39)) := (((Below.refl w.heap.size w).alloc (Nat.le_refl _) _).alloc (by simp) _).alloc (by simp; omega) _
  clear hZ' e0
  generalize (((w.alloc (.cells X 79)).alloc (.cells Z 39)).alloc (.cells Z 39)) = W at *
  have hX2 := g0
  have hN2 := g1
  have hO2 := g2
  have hB2 := g3
  clear g0 g1 g2 g3
  rw [hZ] at hO2
  clear hZ
  go_wp2_with fail
  go_loopw [5] (fun i wr => ∃ k : Nat, k ≤ 32 ∧ i = .int .i64 k ∧ Box wr w.heap.size 79 X ∧ Box wr (w.heap.size + 1) 39 Z ∧ Box wr (w.heap.size + 2) 39 (vArr (mx (byN n) (fun _ => 0) k)) ∧ Below w.heap.size w wr) (fun i _ => 32 - (intOf i).toNat)
  case atStart => exact ⟨0, by omega, rfl, hX2, hN2, by rw [mx_zero]; exact hO2, hB2⟩
  case round =>
    obtain ⟨wa, rfl⟩ : ∃ wa : World, wa = wr := ⟨_, rfl⟩
    obtain ⟨k, hk, rfl, hX, hN, hO, hB⟩ := hrel
    clear hX2 hN2 hO2 hB2
    by_cases hlt : k < 32
    · have hq4 : k / 8 < 4 := by omega
      have hX' := hX
      rw [HXE.out] at hX'
      have gx := hX'.cell (k / 8) (wArr_get _ (k / 8) hq4)
      have go := hO.cell k (vArr_get _ k hlt)
      have fo := hO.frozen k
      have b5 : (0 : Int) ≤ (k : Int) := by omega
      have b6 : (k : Int) < 32 := by omega
      have b7 : IntKind.i64.wrap (k : Int) = (k : Int) := by rw [IntKind.wrap_i64]; omega
      have hpb := Lib.hid (put_byte n k)
      obtain ⟨u, hu⟩ : ∃ u, u = wd n (k / 8) := ⟨_, rfl⟩
      have bu := wd_lt n (k / 8)
      rw [← hu] at gx hpb bu
      have HS' := Lib.hid (mx_step (byN n) (fun _ => 0) k)
      obtain ⟨r, hr⟩ : ∃ r, r = byN n k := ⟨_, rfl⟩
      rw [← hr] at HS'
      have HR := Lib.hid hr
      clear hu hr hX'
      go_wp2_with fail
      have hv : ((u : Int) / 2 ^ (8 * (k % 8)) % 256) = (r : Int) := by
        rw [HR.out, show byN n k = u / 2 ^ (8 * (k % 8)) % 256 from hpb.out.symm]; simp
      rw [hv]
      refine ⟨⟨k + 1, by omega, by go_num, hX.far _ _ (by simp; omega), hN.far _ _ (by simp), ?_, hB.setCell (by simp; omega) _⟩, by simp [intOf]; omega⟩
      have h1 := hO.set k (.int .u8 (r : Nat))
      rw [vArr_set, HS'.out] at h1
      exact h1
    · obtain rfl : k = 32 := by omega
      rw [← HG.out] at hO
      go_upto_region 7 with fail
      go_step
      refine wpList_load_box rfl 39 _ rfl hO (by rfl) Try.underlying39 rfl (by rw [HGS.out]; kernel_rfl) ?_
      refine wpList_store_box rfl 39 _ _ rfl hN (by rfl) (by rfl) (by rw [HZS.out, HGS.out]) (by rw [HGS.out]; kernel_rfl) HG1.out ?_
      intro w4 hR4 hst
      have hB4 := hst.below w.heap.size w (by omega) hB
      simp only [Act.put, List.setIfInBounds_toArray, List.set_cons_zero, List.set_cons_succ]
      clear hst hX hO hN hB
      go_wp2_with fail
      exact bodyPost_ret (v := .agg G) (box_result rfl _ _ (by rfl) hR4 Try.underlying39 rfl (by rw [HGS.out]; kernel_rfl)) rfl ⟨rfl, hB4⟩
end Go.Proofs.Ytpkoniebbkkmjaa

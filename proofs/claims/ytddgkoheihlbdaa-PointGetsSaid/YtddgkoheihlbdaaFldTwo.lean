/- field: two: the elements of 32 bytes. -/
import Derived.Test.YtddgkoheihlbdaaFldGets
import Derived.Test.YtddgkoheihlbdaaFldRef6
namespace Go.Proofs.Ytddgkoheihlbdaa
open Go.RowKit

theorem cells_sl {w : World} {g : Nat} {l : List UInt8} (h : Box w g 40 (lCells l).toArray) (hl : l.length = 32) : Sl w (some ⟨g, 0, none⟩) 32 32 l := by
  refine ⟨hl.symm, Nat.le_refl _, by unfold maxLen; omega, (fun h => by cases h), .inr ⟨g, 0, rfl, fun j hj => ?_⟩⟩
  rw [Nat.zero_add]
  refine h.cell j ?_
  simp [lCells, List.getD_eq_getElem?_getD, show j < l.length by omega]

def twoX (l : List UInt8) : L5 := bif decide (leNat l < P25) then L5.of (leNat l) else L5.zero

set_option maxRecDepth 100000 in
set_option maxHeartbeats 4000000 in
theorem two_any (l : List UInt8) (w : World) (hl : l.length = 32) :
    Calls Try.prog 36 #[.agg (lCells l).toArray] w fun e w' => e = .returned (.tuple #[.agg (gArr (twoX l).at), .agg (fArr (dig (leNat l % P25))), .bool (decide (leNat l < P25))]) ∧ Below w.heap.size w w' := by
  have HGET : Hid (∀ (w : World) (g : Nat), Box w g 40 (lCells l).toArray → Calls Try.prog 19 #[.slice (some ⟨g, 0, none⟩) 32 32] w fun e w' => e = .returned (.tuple #[.agg (gArr (twoX l).at), .int .i64 (bif decide (leNat l < P25) then 0 else 6)]) ∧ Below w.heap.size w w') :=
    Lib.hid fun w g h => get_any l _ 32 w (cells_sl h hl)
  have HRAW : Hid (∀ (w : World) (g : Nat), Box w g 40 (lCells l).toArray → Calls Try.prog 24 #[.slice (some ⟨g, 0, none⟩) 32 32] w fun e w' => e = .returned (.tuple #[.agg (fArr (dig (leNat l % P25))), .bool (leNat l % P25 == leNat l)]) ∧ Below w.heap.size w w') :=
    Lib.hid fun w g h => refRaw_any l _ 32 w (cells_sl h hl)
  have hlt : leNat l % P25 < P25 := Nat.mod_lt _ (by unfold P25; omega)
  have hcase : (decide (leNat l < P25) = true ∧ (leNat l % P25 == leNat l) = true) ∨ (decide (leNat l < P25) = false ∧ (leNat l % P25 == leNat l) = false) := by
    by_cases h : leNat l < P25
    · exact .inl ⟨by simpa using h, by rw [Nat.mod_eq_of_lt h]; simp⟩
    · exact .inr ⟨by simpa using h, by simp; omega⟩
  obtain ⟨X, hX⟩ : ∃ X, X = gArr (twoX l).at := ⟨_, rfl⟩
  obtain ⟨Y, hY⟩ : ∃ Y, Y = fArr (dig (leNat l % P25)) := ⟨_, rfl⟩
  have HXS := Lib.hid (show X.size = 5 by rw [hX]; exact gArr_size _)
  have HX1 := Lib.hid (show X.all (·.oneCell') = true by rw [hX]; exact gArr_one _)
  have HYS := Lib.hid (show Y.size = 16 by rw [hY]; exact fArr_size _)
  have HY1 := Lib.hid (show Y.all (·.oneCell') = true by rw [hY]; exact fArr_one _)
  obtain ⟨q, hq⟩ : ∃ q, q = decide (leNat l < P25) := ⟨_, rfl⟩
  obtain ⟨r, hr⟩ : ∃ r, r = (leNat l % P25 == leNat l) := ⟨_, rfl⟩
  rw [← hX, ← hq] at HGET
  rw [← hY, ← hr] at HRAW
  rw [← hq, ← hr] at hcase
  have HXE := Lib.hid hX
  have HYE := Lib.hid hY
  have HQE := Lib.hid hq
  obtain ⟨L, hL⟩ : ∃ L, L = (lCells l).toArray := ⟨_, rfl⟩
  rw [← hL] at HGET HRAW ⊢
  clear hX hY hq hr hL hlt
  have HCASE := Lib.hid hcase
  clear hcase
  go_enter Try.func36, Try.ntmps36
  go_upto_region 1 with fail
  have g0 : Box (((w.alloc (.cells L 40)).alloc (.cells #[.int .u64 0, .int .u64 0, .int .u64 0, .int .u64 0, .int .u64 0] 27)).alloc (.cells (Array.replicate 16 (Value.int .u64 0)) 34)) w.heap.size 40 L := ((Box.new _ _ _).alloc _).alloc _
  have g1 : Box (((w.alloc (.cells L 40)).alloc (.cells #[.int .u64 0, .int .u64 0, .int .u64 0, .int .u64 0, .int .u64 0] 27)).alloc (.cells (Array.replicate 16 (Value.int .u64 0)) 34)) (w.heap.size + 1) 27 #[.int .u64 0, .int .u64 0, .int .u64 0, .int .u64 0, .int .u64 0] := by
    have := (Box.new (w.alloc (.cells L 40)) 27 #[.int .u64 0, .int .u64 0, .int .u64 0, .int .u64 0, .int .u64 0]).alloc (.cells (Array.replicate 16 (Value.int .u64 0)) 34)
    simp only [World.size_alloc] at this
    exact this
  have g2 : Box (((w.alloc (.cells L 40)).alloc (.cells #[.int .u64 0, .int .u64 0, .int .u64 0, .int .u64 0, .int .u64 0] 27)).alloc (.cells (Array.replicate 16 (Value.int .u64 0)) 34)) (w.heap.size + 2) 34 (Array.replicate 16 (Value.int .u64 0)) := by
    have := Box.new ((w.alloc (.cells L 40)).alloc (.cells #[.int .u64 0, .int .u64 0, .int .u64 0, .int .u64 0, .int .u64 0] 27)) 34 (Array.replicate 16 (Value.int .u64 0))
    simp only [World.size_alloc] at this
    exact this
  have g3 : Below w.heap.size w (((w.alloc (.cells L 40)).alloc (.cells #[.int .u64 0, .int .u64 0, .int .u64 0, .int .u64 0, .int .u64 0] 27)).alloc (.cells (Array.replicate 16 (Value.int .u64 0)) 34)) := (((Below.refl w.heap.size w).alloc (Nat.le_refl _) _).alloc (by simp) _).alloc (by simp; omega) _
  have g4 : w.heap.size + 3 ≤ (((w.alloc (.cells L 40)).alloc (.cells #[.int .u64 0, .int .u64 0, .int .u64 0, .int .u64 0, .int .u64 0] 27)).alloc (.cells (Array.replicate 16 (Value.int .u64 0)) 34)).heap.size := by simp
  change Code.wp _ _ _ _ (((w.alloc (.cells L 40)).alloc (.cells #[.int .u64 0, .int .u64 0, .int .u64 0, .int .u64 0, .int .u64 0] 27)).alloc (.cells (Array.replicate 16 (Value.int .u64 0)) 34))
  generalize (((w.alloc (.cells L 40)).alloc (.cells #[.int .u64 0, .int .u64 0, .int .u64 0, .int .u64 0, .int .u64 0] 27)).alloc (.cells (Array.replicate 16 (Value.int .u64 0)) 34)) = W at *
  go_step
  refine wpList_value rfl (.slice (some ⟨w.heap.size, 0, none⟩) 32 32) (by simp [go_sem]) ?_
  refine wpList_enter rfl 19 #[.slice (some ⟨w.heap.size, 0, none⟩) 32 32] (by simp [go_sem, Act.put]) _ _ (HGET.out W _ g0) ?_
  intro w1 b1
  refine wpList_value rfl (.tuple #[.agg X, .int .i64 (bif q then 0 else 6)]) (by simp [go_sem, Act.put]) ?_
  refine wpList_value rfl (.agg X) (by simp [go_sem, Act.put]) ?_
  refine wpList_value rfl (.int .i64 (bif q then 0 else 6)) (by simp [go_sem, Act.put]) ?_
  refine wpList_alloc_box rfl 27 rfl #[.int .u64 0, .int .u64 0, .int .u64 0, .int .u64 0, .int .u64 0] (by intro w; simp [go_sem]) ?_
  refine wpList_store_box (cells := X) rfl 27 (.tmp 5) (.tmp 12) rfl (Box.new _ _ _) (by simp [go_sem, Act.put]) (by simp [go_sem, Act.put]) (by rw [HXS.out]; rfl) (by rw [HXS.out]; kernel_rfl) HX1.out ?_
  intro w2 hX2 st2
  have s1 := b1.size
  have q0 := st2.box ((g0.after b1).alloc _) (by omega)
  have q1 := st2.box ((g1.after b1).alloc _) (by omega)
  have q2 := st2.box ((g2.after b1).alloc _) (by omega)
  have q3 := st2.below w.heap.size w (by omega) ((g3.trans (b1.mono (by omega))).alloc (by omega) _)
  have q4 : w1.heap.size + 1 = w2.heap.size := by have := st2.size; simp at this; omega
  refine wpList_value rfl (.int .i64 (bif q then 0 else 6)) (by simp [go_sem, Act.put]) ?_
  simp only [Act.put, List.setIfInBounds_toArray, List.set_cons_zero, List.set_cons_succ]
  have hO : w.heap.size + 3 ≤ w1.heap.size := by omega
  clear st2 b1 g0 g1 g2 g3 g4 s1
  generalize w1.heap.size = O at *
  go_upto_region 2 with fail
  go_step
  refine wpList_value rfl (.slice (some ⟨w.heap.size, 0, none⟩) 32 32) (by simp [go_sem]) ?_
  refine wpList_enter rfl 24 #[.slice (some ⟨w.heap.size, 0, none⟩) 32 32] (by simp [go_sem, Act.put]) _ _ (HRAW.out w2 _ q0) ?_
  intro w3 b3
  refine wpList_value rfl (.tuple #[.agg Y, .bool r]) (by simp [go_sem, Act.put]) ?_
  refine wpList_value rfl (.agg Y) (by simp [go_sem, Act.put]) ?_
  refine wpList_value rfl (.bool r) (by simp [go_sem, Act.put]) ?_
  refine wpList_alloc_box rfl 34 rfl (Array.replicate 16 (Value.int .u64 0)) (by intro w; simp [go_sem]; rfl) ?_
  refine wpList_store_box (cells := Y) rfl 34 (.tmp 7) (.tmp 17) rfl (Box.new _ _ _) (by simp [go_sem, Act.put]) (by simp [go_sem, Act.put]) (by rw [HYS.out]; rfl) (by rw [HYS.out]; kernel_rfl) HY1.out ?_
  intro w5 hY5 st5
  have s3 := b3.size
  have hR1 := st5.box ((q1.after b3).alloc _) (by omega)
  have hR2 := st5.box ((q2.after b3).alloc _) (by omega)
  have hX5 := st5.box ((hX2.after b3).alloc _) (by omega)
  have hB5 := st5.below w.heap.size w (by omega) ((q3.trans (b3.mono (by omega))).alloc (by omega) _)
  refine wpList_value rfl (.bool r) (by simp [go_sem, Act.put]) ?_
  simp only [Act.put, List.setIfInBounds_toArray, List.set_cons_zero, List.set_cons_succ]
  have hO' : O + 1 ≤ w3.heap.size := by omega
  clear st5 b3 q0 q1 q2 q3 q4 s3 hX2
  generalize w3.heap.size = O' at *
  go_upto_region 3 with fail
  have hS0 : Box w5.drew O 27 X ∧ Box w5.drew O' 34 Y := ⟨hX5, hY5⟩
  rcases HCASE.out with ⟨rfl, rfl⟩ | ⟨rfl, rfl⟩
  · refine wp_region_held_drew (S := fun w' => Box w' O 27 X ∧ Box w' O' 34 Y) rfl hS0 (fun _ => ?_)
    refine wpH_take 0 rfl (by kernel_rfl) (by kernel_rfl) (by kernel_rfl) rfl (fun _ _ _ _ h => h) (.agg X) (fun w' h => run_load_box rfl h.1 (by rfl) Try.underlying27 rfl (by rw [HXS.out]; kernel_rfl)) hS0 ?_
    refine wpH_take 1 rfl (by kernel_rfl) (by kernel_rfl) (by kernel_rfl) rfl (fun _ _ _ _ h => h) (.agg Y) (fun w' h => run_load_box rfl h.2 (by rfl) Try.underlying34 rfl (by rw [HYS.out]; kernel_rfl)) hS0 ?_
    refine wpH_take 2 rfl (by kernel_rfl) (by kernel_rfl) (by kernel_rfl) rfl (fun _ _ _ _ h => h) (.bool true) (fun w' h => by simp [go_sem, Act.put]) hS0 ?_
    refine wpH_take 3 rfl (by kernel_rfl) (by kernel_rfl) (by kernel_rfl) rfl (fun _ _ _ _ h => h) (.bool true) (fun w' h => by simp [go_sem, Act.put]) hS0 ?_
    refine wpH_take 4 rfl (by kernel_rfl) (by kernel_rfl) (by kernel_rfl) rfl (fun _ _ _ _ h => h) (.int .i64 0) (fun w' h => by simp [go_sem, Act.put]) hS0 ?_
    refine wpH_take 5 rfl (by kernel_rfl) (by kernel_rfl) (by kernel_rfl) rfl (fun _ _ _ _ h => h) (.bool true) (fun w' h => by simp [go_sem, Act.put]) hS0 ?_
    refine wpH_take 6 rfl (by kernel_rfl) (by kernel_rfl) (by kernel_rfl) rfl (fun _ _ _ _ h => h) (.bool true) (fun w' h => by simp [go_sem, Act.put]) hS0 ?_
    refine wpH_store_box 7 rfl (by kernel_rfl) rfl 27 (.tmp 2) (.tmp 19) rfl hR1.drew (by simp [go_sem, Act.put]) (by simp [go_sem, Act.put]) (by rw [HXS.out]; rfl) (by rw [HXS.out]; kernel_rfl) HX1.out ?_
    intro w6 hR6 st6
    have hS6 : Box w6 O 27 X ∧ Box w6 O' 34 Y := ⟨st6.box hX5.drew (by omega), st6.box hY5.drew (by omega)⟩
    refine ⟨hS6, ?_⟩
    refine wpH_store_box 8 rfl (by kernel_rfl) rfl 34 (.tmp 3) (.tmp 20) rfl (st6.box hR2.drew (by omega)) (by simp [go_sem, Act.put]) (by simp [go_sem, Act.put]) (by rw [HYS.out]; rfl) (by rw [HYS.out]; kernel_rfl) HY1.out ?_
    intro w7 hR7 st7
    have hS7 : Box w7 O 27 X ∧ Box w7 O' 34 Y := ⟨st7.box hS6.1 (by omega), st7.box hS6.2 (by omega)⟩
    refine ⟨hS7, ?_⟩
    refine wpH_take 9 rfl (by kernel_rfl) (by kernel_rfl) (by kernel_rfl) rfl (fun _ _ _ _ h => h) (.bool true) (fun w' h => by simp [go_sem, Act.put]) hS7 ?_
    refine wpAnyH_done (by kernel_rfl) ?_ _
    have hE := st7.below w.heap.size w (by omega) (st6.below w.heap.size w (by omega) hB5.drew)
    have hR6' := st7.box hR6 (by omega)
    simp only [Act.put, List.setIfInBounds_toArray, List.set_cons_zero, List.set_cons_succ]
    clear hS0 hS6 hS7 st6 st7 hR1 hR2 hX5 hY5 hB5
    go_wp2_with fail
    exact bodyPost_ret (v := .tuple #[.agg X, .agg Y, .bool true]) (box_result3 (p := 2) (q := 3) (r := 4) rfl _ _ (by rfl) hR6' Try.underlying27 rfl (by rw [HXS.out]; kernel_rfl) (by rfl) hR7 Try.underlying34 rfl (by rw [HYS.out]; kernel_rfl)) rfl ⟨by rw [HXE.out, HYE.out, ← HQE.out], hE⟩
  · refine wp_region_held_drew (S := fun w' => Box w' O 27 X ∧ Box w' O' 34 Y) rfl hS0 (fun _ => ?_)
    refine wpH_take 0 rfl (by kernel_rfl) (by kernel_rfl) (by kernel_rfl) rfl (fun _ _ _ _ h => h) (.agg X) (fun w' h => run_load_box rfl h.1 (by rfl) Try.underlying27 rfl (by rw [HXS.out]; kernel_rfl)) hS0 ?_
    refine wpH_take 1 rfl (by kernel_rfl) (by kernel_rfl) (by kernel_rfl) rfl (fun _ _ _ _ h => h) (.agg Y) (fun w' h => run_load_box rfl h.2 (by rfl) Try.underlying34 rfl (by rw [HYS.out]; kernel_rfl)) hS0 ?_
    refine wpH_take 2 rfl (by kernel_rfl) (by kernel_rfl) (by kernel_rfl) rfl (fun _ _ _ _ h => h) (.bool false) (fun w' h => by simp [go_sem, Act.put]) hS0 ?_
    refine wpH_take 3 rfl (by kernel_rfl) (by kernel_rfl) (by kernel_rfl) rfl (fun _ _ _ _ h => h) (.bool false) (fun w' h => by simp [go_sem, Act.put]) hS0 ?_
    refine wpH_skip 4 rfl (by kernel_rfl) (by kernel_rfl) (by kernel_rfl) rfl (fun _ _ _ _ h => h) hS0 ?_
    refine wpH_skip 5 rfl (by kernel_rfl) (by kernel_rfl) (by kernel_rfl) rfl (fun _ _ _ _ h => h) hS0 ?_
    refine wpH_take 6 rfl (by kernel_rfl) (by kernel_rfl) (by kernel_rfl) rfl (fun _ _ _ _ h => h) (.bool false) (fun w' h => by simp [go_sem, Act.put]) hS0 ?_
    refine wpH_store_box 7 rfl (by kernel_rfl) rfl 27 (.tmp 2) (.tmp 19) rfl hR1.drew (by simp [go_sem, Act.put]) (by simp [go_sem, Act.put]) (by rw [HXS.out]; rfl) (by rw [HXS.out]; kernel_rfl) HX1.out ?_
    intro w6 hR6 st6
    have hS6 : Box w6 O 27 X ∧ Box w6 O' 34 Y := ⟨st6.box hX5.drew (by omega), st6.box hY5.drew (by omega)⟩
    refine ⟨hS6, ?_⟩
    refine wpH_store_box 8 rfl (by kernel_rfl) rfl 34 (.tmp 3) (.tmp 20) rfl (st6.box hR2.drew (by omega)) (by simp [go_sem, Act.put]) (by simp [go_sem, Act.put]) (by rw [HYS.out]; rfl) (by rw [HYS.out]; kernel_rfl) HY1.out ?_
    intro w7 hR7 st7
    have hS7 : Box w7 O 27 X ∧ Box w7 O' 34 Y := ⟨st7.box hS6.1 (by omega), st7.box hS6.2 (by omega)⟩
    refine ⟨hS7, ?_⟩
    refine wpH_take 9 rfl (by kernel_rfl) (by kernel_rfl) (by kernel_rfl) rfl (fun _ _ _ _ h => h) (.bool false) (fun w' h => by simp [go_sem, Act.put]) hS7 ?_
    refine wpAnyH_done (by kernel_rfl) ?_ _
    have hE := st7.below w.heap.size w (by omega) (st6.below w.heap.size w (by omega) hB5.drew)
    have hR6' := st7.box hR6 (by omega)
    simp only [Act.put, List.setIfInBounds_toArray, List.set_cons_zero, List.set_cons_succ]
    clear hS0 hS6 hS7 st6 st7 hR1 hR2 hX5 hY5 hB5
    go_wp2_with fail
    exact bodyPost_ret (v := .tuple #[.agg X, .agg Y, .bool false]) (box_result3 (p := 2) (q := 3) (r := 4) rfl _ _ (by rfl) hR6' Try.underlying27 rfl (by rw [HXS.out]; kernel_rfl) (by rfl) hR7 Try.underlying34 rfl (by rw [HYS.out]; kernel_rfl)) rfl ⟨by rw [HXE.out, HYE.out, ← HQE.out], hE⟩
end Go.Proofs.Ytddgkoheihlbdaa

/- field: FieldSums: sums, differences and products of any two elements, and of what comes of them, are the document's: the walk. -/
import Derived.Test.YtddgkoheihlbdaaFldTwo
import Derived.Test.YtddgkoheihlbdaaFldNums
import Derived.Deep.CutRange
namespace Go.Proofs.Ytddgkoheihlbdaa
open Go.RowKit

/-- an element of the program's, and the document's number -/
def El (x : L5) (u : Nat) : Prop := x.lt 4503599627370496 ∧ u < P25 ∧ x.val % P25 = u
theorem el_add {x y : L5} {u v : Nat} (hx : El x u) (hy : El y v) : El (x.add y) ((u + v) % P25) := by
  refine ⟨lt_mono (add_tight (lt_mono hx.1 (by omega)) (lt_mono hy.1 (by omega))) (by omega), Nat.mod_lt _ (by unfold P25; omega), ?_⟩
  rw [add_mod, Nat.add_mod, hx.2.2, hy.2.2]
theorem el_mul {x y : L5} {u v : Nat} (hx : El x u) (hy : El y v) : El (x.mul y) (u * v % P25) := by
  refine ⟨lt_mono (cry_tight _ (mulO_lt (allV_le (at_lt hx.1) (at_lt hy.1) 5 (Nat.le_refl _)))) (by omega), Nat.mod_lt _ (by unfold P25; omega), ?_⟩
  rw [mul_mod, Nat.mul_mod, hx.2.2, hy.2.2]
theorem el_sub {x y : L5} {u v : Nat} (hx : El x u) (hy : El y v) : El (x.sub y) ((u + (P25 - v)) % P25) := by
  refine ⟨lt_mono (sub_tight (lt_mono hx.1 (by omega))) (by omega), Nat.mod_lt _ (by unfold P25; omega), ?_⟩
  have h := sub_mod (x := x) (y := y) (lt_mono hy.1 (by omega))
  have h1 := hx.2.2
  have h2 := hy.2.2
  have h3 := hx.2.1
  have h4 := hy.2.1
  unfold P25 at *
  omega


set_option maxRecDepth 100000 in
set_option maxHeartbeats 4000000 in
theorem FieldSums_walk (la lb : List UInt8) (a2 : Option Addr) (len2 cap2 : Nat) (z2 : List Int) (w : World) (hla : la.length = 32) (hlb : lb.length = 32) (w2 : IsRow .u8 w a2 len2 cap2 z2) :
    Calls Try.prog 9 #[.agg (lCells la).toArray, .agg (lCells lb).toArray, .slice a2 len2 cap2] w fun e w' => e = .returned (.bool true) ∧ Below w.heap.size w w' := by
  obtain ⟨l2, s2⟩ := w2.sl
  clear w2
  have HTA := Lib.hid (fun w : World => two_any la w hla)
  have HTB := Lib.hid (fun w : World => two_any lb w hlb)
  have HLAS := Lib.hid (show (lCells la).toArray.size = 32 by simp [lCells, hla])
  have HLBS := Lib.hid (show (lCells lb).toArray.size = 32 by simp [lCells, hlb])
  obtain ⟨LA, hLA⟩ : ∃ L, L = (lCells la).toArray := ⟨_, rfl⟩
  obtain ⟨LB, hLB⟩ : ∃ L, L = (lCells lb).toArray := ⟨_, rfl⟩
  rw [← hLA] at HTA HLAS ⊢
  rw [← hLB] at HTB HLBS ⊢
  have hXS := Lib.hid (gArr_size (twoX la).at)
  have HX1 := Lib.hid (gArr_one (twoX la).at)
  have hYS := Lib.hid (gArr_size (twoX lb).at)
  have HY1 := Lib.hid (gArr_one (twoX lb).at)
  have HUS := Lib.hid (fArr_size (dig (leNat la % P25)))
  have HU1 := Lib.hid (fArr_one (dig (leNat la % P25)))
  have HVS := Lib.hid (fArr_size (dig (leNat lb % P25)))
  have HV1 := Lib.hid (fArr_one (dig (leNat lb % P25)))
  have HXS := hXS
  have HYS := hYS
  clear hLA hLB hXS hYS hla hlb
  have hel : ∀ l : List UInt8, decide (leNat l < P25) = true → El (twoX l) (leNat l % P25) := fun l h => by
    unfold El twoX
    rw [h]
    have h' : leNat l < P25 := by simpa using h
    have h2 := of_lt (leNat l)
    refine ⟨lt_mono h2 (by omega), Nat.mod_lt _ (by unfold P25; omega), ?_⟩
    simp only [cond_true]
    rw [of_val, Nat.mod_eq_of_lt (show leNat l < 57896044618658097711785492504343953926634992332820282019728792003956564819968 by unfold P25 at h'; omega)]
  have HELA := Lib.hid (hel la)
  have HELB := Lib.hid (hel lb)
  clear hel
  obtain ⟨X, hX⟩ : ∃ X, X = gArr (twoX la).at := ⟨_, rfl⟩
  obtain ⟨Y, hY⟩ : ∃ Y, Y = gArr (twoX lb).at := ⟨_, rfl⟩
  obtain ⟨U, hU⟩ : ∃ U, U = fArr (dig (leNat la % P25)) := ⟨_, rfl⟩
  obtain ⟨V, hV⟩ : ∃ V, V = fArr (dig (leNat lb % P25)) := ⟨_, rfl⟩
  obtain ⟨ra, hra⟩ : ∃ r, r = decide (leNat la < P25) := ⟨_, rfl⟩
  obtain ⟨rb, hrb⟩ : ∃ r, r = decide (leNat lb < P25) := ⟨_, rfl⟩
  rw [← hX, ← hU, ← hra] at HTA
  rw [← hY, ← hV, ← hrb] at HTB
  rw [← hX] at HXS HX1
  rw [← hY] at HYS HY1
  rw [← hU] at HUS HU1
  rw [← hV] at HVS HV1
  rw [← hra] at HELA
  rw [← hrb] at HELB
  have HXE := Lib.hid hX
  have HYE := Lib.hid hY
  have HUE := Lib.hid hU
  have HVE := Lib.hid hV
  clear hX hY hU hV hra hrb
  go_enter Try.func9, Try.ntmps9
  go_upto_region 1 with fail
  have g0 : Box ((w.alloc (.cells LA 40)).alloc (.cells LB 40)) w.heap.size 40 LA := (Box.new _ _ _).alloc _
  have g1 : Box ((w.alloc (.cells LA 40)).alloc (.cells LB 40)) (w.heap.size + 1) 40 LB := by
    have := Box.new (w.alloc (.cells LA 40)) 40 LB
    simp only [World.size_alloc] at this
    exact this
  have hB0 : Below w.heap.size w ((w.alloc (.cells LA 40)).alloc (.cells LB 40)) := ((Below.refl w.heap.size w).alloc (Nat.le_refl _) _).alloc (by simp) _
  have hS0 : w.heap.size + 2 ≤ ((w.alloc (.cells LA 40)).alloc (.cells LB 40)).heap.size := by simp
  change Code.wp _ _ _ _ ((w.alloc (.cells LA 40)).alloc (.cells LB 40))
  generalize ((w.alloc (.cells LA 40)).alloc (.cells LB 40)) = wn0 at *
  go_step
  refine wpList_load_box rfl 40 _ rfl g0 (by rfl) Try.underlying40 rfl (by rw [HLAS.out]; kernel_rfl) ?_
  refine wpList_enter rfl 36 #[.agg LA] (by simp [go_sem, Act.put]) _ _ (HTA.out _) ?_
  intro wt1 bt1
  refine wpList_value rfl (.tuple #[.agg X, .agg U, .bool ra]) (by simp [go_sem, Act.put]) ?_
  refine wpList_value rfl (.agg X) (by simp [go_sem, Act.put]) ?_
  refine wpList_value rfl (.agg U) (by simp [go_sem, Act.put]) ?_
  refine wpList_value rfl (.bool ra) (by simp [go_sem, Act.put]) ?_
  refine wpList_alloc_box rfl 27 rfl #[.int .u64 0, .int .u64 0, .int .u64 0, .int .u64 0, .int .u64 0] (by intro w; simp [go_sem]) ?_
  refine wpList_alloc_box rfl 34 rfl (Array.replicate 16 (Value.int .u64 0)) (by intro w; simp [go_sem]; rfl) ?_
  simp only [Act.put, List.setIfInBounds_toArray, List.set_cons_zero, List.set_cons_succ]
  have za := (Box.new wt1 27 #[.int .u64 0, .int .u64 0, .int .u64 0, .int .u64 0, .int .u64 0]).alloc (.cells (Array.replicate 16 (Value.int .u64 0)) 34)
  have zb := Box.new (wt1.alloc (.cells #[.int .u64 0, .int .u64 0, .int .u64 0, .int .u64 0, .int .u64 0] 27)) 34 (Array.replicate 16 (Value.int .u64 0))
  have zc : (wt1.alloc (.cells #[.int .u64 0, .int .u64 0, .int .u64 0, .int .u64 0, .int .u64 0] 27)).heap.size = wt1.heap.size + 1 := by simp
  rw [zc] at zb ⊢
  have ts := bt1.size
  have zd : ((wt1.alloc (.cells #[.int .u64 0, .int .u64 0, .int .u64 0, .int .u64 0, .int .u64 0] 27)).alloc (.cells (Array.replicate 16 (Value.int .u64 0)) 34)).heap.size = wt1.heap.size + 2 := by simp
  have zk1 := ((g1.after bt1).alloc (.cells #[.int .u64 0, .int .u64 0, .int .u64 0, .int .u64 0, .int .u64 0] 27)).alloc (.cells (Array.replicate 16 (Value.int .u64 0)) 34)
  have zB := ((hB0.trans (bt1.mono (by omega))).alloc (by omega) (.cells #[.int .u64 0, .int .u64 0, .int .u64 0, .int .u64 0, .int .u64 0] 27)).alloc (by simp; omega) (.cells (Array.replicate 16 (Value.int .u64 0)) 34)
  generalize ((wt1.alloc (.cells #[.int .u64 0, .int .u64 0, .int .u64 0, .int .u64 0, .int .u64 0] 27)).alloc (.cells (Array.replicate 16 (Value.int .u64 0)) 34)) = wu1 at *
  have hO1 : w.heap.size + 2 ≤ wt1.heap.size := by omega
  have hOO1 : wn0.heap.size ≤ wt1.heap.size := ts
  clear bt1
  generalize wt1.heap.size = O1 at *
  refine wpList_store_box (cells := X) rfl 27 (.tmp 7) (.tmp 19) rfl za (by simp [go_sem]) (by simp [go_sem]) (by rw [HXS.out]; rfl) (by rw [HXS.out]; kernel_rfl) HX1.out ?_
  intro wv1 hX sv
  refine wpList_store_box (cells := U) rfl 34 (.tmp 8) (.tmp 20) rfl (sv.box zb (by omega)) (by simp [go_sem, Act.put]) (by simp [go_sem, Act.put]) (by rw [HUS.out]; rfl) (by rw [HUS.out]; kernel_rfl) HU1.out ?_
  intro wn1 hU sn
  replace hX := sn.box hX (by omega)
  replace g1 := sn.box (sv.box zk1 (by omega)) (by omega)
  have hB1 := sn.below w.heap.size w (by omega) (sv.below w.heap.size w (by omega) zB)
  have hS1 : O1 + 2 ≤ wn1.heap.size := by rw [sn.size, sv.size, zd]; omega
  clear sv sn za zb zc zd zB ts zk1
  refine wpList_value rfl (.bool ra) (by simp [go_sem, Act.put]) ?_
  simp only [Act.put, List.setIfInBounds_toArray, List.set_cons_zero, List.set_cons_succ]
  clear g0
  go_upto_region 2 with fail
  go_step
  refine wpList_load_box rfl 40 _ rfl g1 (by rfl) Try.underlying40 rfl (by rw [HLBS.out]; kernel_rfl) ?_
  refine wpList_enter rfl 36 #[.agg LB] (by simp [go_sem, Act.put]) _ _ (HTB.out _) ?_
  intro wt2 bt2
  refine wpList_value rfl (.tuple #[.agg Y, .agg V, .bool rb]) (by simp [go_sem, Act.put]) ?_
  refine wpList_value rfl (.agg Y) (by simp [go_sem, Act.put]) ?_
  refine wpList_value rfl (.agg V) (by simp [go_sem, Act.put]) ?_
  refine wpList_value rfl (.bool rb) (by simp [go_sem, Act.put]) ?_
  refine wpList_alloc_box rfl 27 rfl #[.int .u64 0, .int .u64 0, .int .u64 0, .int .u64 0, .int .u64 0] (by intro w; simp [go_sem]) ?_
  refine wpList_alloc_box rfl 34 rfl (Array.replicate 16 (Value.int .u64 0)) (by intro w; simp [go_sem]; rfl) ?_
  simp only [Act.put, List.setIfInBounds_toArray, List.set_cons_zero, List.set_cons_succ]
  have za := (Box.new wt2 27 #[.int .u64 0, .int .u64 0, .int .u64 0, .int .u64 0, .int .u64 0]).alloc (.cells (Array.replicate 16 (Value.int .u64 0)) 34)
  have zb := Box.new (wt2.alloc (.cells #[.int .u64 0, .int .u64 0, .int .u64 0, .int .u64 0, .int .u64 0] 27)) 34 (Array.replicate 16 (Value.int .u64 0))
  have zc : (wt2.alloc (.cells #[.int .u64 0, .int .u64 0, .int .u64 0, .int .u64 0, .int .u64 0] 27)).heap.size = wt2.heap.size + 1 := by simp
  rw [zc] at zb ⊢
  have ts := bt2.size
  have zd : ((wt2.alloc (.cells #[.int .u64 0, .int .u64 0, .int .u64 0, .int .u64 0, .int .u64 0] 27)).alloc (.cells (Array.replicate 16 (Value.int .u64 0)) 34)).heap.size = wt2.heap.size + 2 := by simp
  have zkx := ((hX.after bt2).alloc (.cells #[.int .u64 0, .int .u64 0, .int .u64 0, .int .u64 0, .int .u64 0] 27)).alloc (.cells (Array.replicate 16 (Value.int .u64 0)) 34)
  have zku := ((hU.after bt2).alloc (.cells #[.int .u64 0, .int .u64 0, .int .u64 0, .int .u64 0, .int .u64 0] 27)).alloc (.cells (Array.replicate 16 (Value.int .u64 0)) 34)
  have zB := ((hB1.trans (bt2.mono (by omega))).alloc (by omega) (.cells #[.int .u64 0, .int .u64 0, .int .u64 0, .int .u64 0, .int .u64 0] 27)).alloc (by simp; omega) (.cells (Array.replicate 16 (Value.int .u64 0)) 34)
  generalize ((wt2.alloc (.cells #[.int .u64 0, .int .u64 0, .int .u64 0, .int .u64 0, .int .u64 0] 27)).alloc (.cells (Array.replicate 16 (Value.int .u64 0)) 34)) = wu2 at *
  have hO2 : w.heap.size + 2 ≤ wt2.heap.size := by omega
  have hOO2 : wn1.heap.size ≤ wt2.heap.size := ts
  clear bt2
  generalize wt2.heap.size = O2 at *
  refine wpList_store_box (cells := Y) rfl 27 (.tmp 10) (.tmp 25) rfl za (by simp [go_sem]) (by simp [go_sem]) (by rw [HYS.out]; rfl) (by rw [HYS.out]; kernel_rfl) HY1.out ?_
  intro wv2 hY sv
  refine wpList_store_box (cells := V) rfl 34 (.tmp 11) (.tmp 26) rfl (sv.box zb (by omega)) (by simp [go_sem, Act.put]) (by simp [go_sem, Act.put]) (by rw [HVS.out]; rfl) (by rw [HVS.out]; kernel_rfl) HV1.out ?_
  intro wn2 hV sn
  replace hY := sn.box hY (by omega)
  replace hX := sn.box (sv.box zkx (by omega)) (by omega)
  replace hU := sn.box (sv.box zku (by omega)) (by omega)
  have hB2 := sn.below w.heap.size w (by omega) (sv.below w.heap.size w (by omega) zB)
  have hS2 : O2 + 2 ≤ wn2.heap.size := by rw [sn.size, sv.size, zd]; omega
  clear sv sn za zb zc zd zB ts zkx zku
  refine wpList_value rfl (.bool rb) (by simp [go_sem, Act.put]) ?_
  simp only [Act.put, List.setIfInBounds_toArray, List.set_cons_zero, List.set_cons_succ]
  clear g1 hB0 hB1 hS0
  cases ra with
  | false =>
    clear hX hU hY hV
    go_wp2_with fail
    refine (awakeF_any _).mono ?_
    rintro e w9 ⟨rfl, hb9⟩
    have hB9 := hB2.trans (hb9.mono hB2.size)
    clear hb9 hB2
    go_wp2_with fail
    go_ret
    exact ⟨rfl, hB9⟩
  | true =>
  cases rb with
  | false =>
    clear hX hU hY hV
    go_wp2_with fail
    refine (awakeF_any _).mono ?_
    rintro e w9 ⟨rfl, hb9⟩
    have hB9 := hB2.trans (hb9.mono hB2.size)
    clear hb9 hB2
    go_wp2_with fail
    go_ret
    exact ⟨rfl, hB9⟩
  | true =>
  by_cases hlen : (40 : Int) < len2
  · clear hX hU hY hV
    go_wp2_with fail
    refine (awakeF_any _).mono ?_
    rintro e w9 ⟨rfl, hb9⟩
    have hB9 := hB2.trans (hb9.mono hB2.size)
    clear hb9 hB2
    go_wp2_with fail
    go_ret
    exact ⟨rfl, hB9⟩
  · have hlen' : (len2 : Int) ≤ 40 := by omega
    clear hlen
    go_upto_region 5 with fail
    have hel1 := HELA.out rfl
    have hel2 := HELB.out rfl
    have hO12 : O1 + 2 ≤ O2 := by omega
    rw [HXE.out] at hX
    rw [HUE.out] at hU
    rw [HYE.out] at hY
    rw [HVE.out] at hV
    have HSL := Lib.hid (fun (w' : World) (hb : Below w.heap.size w w') => s2.after hb)
    have hlen2 : len2 = l2.length := s2.1
    have HL2 := Lib.hid hlen2
    clear s2 hlen2
    generalize Value.agg X = VX at *
    generalize Value.agg U = VU at *
    generalize Value.agg Y = VY at *
    generalize Value.agg V = VV at *
    go_wp2_with fail
    go_loopw [13] (fun i wr => ∃ k : Nat, k ≤ len2 ∧ i = .int .i64 k ∧ ∃ (x y : L5) (u v : Nat), El x u ∧ El y v ∧ Box wr O1 27 (gArr x.at) ∧ Box wr (O1 + 1) 34 (fArr (dig u)) ∧ Box wr O2 27 (gArr y.at) ∧ Box wr (O2 + 1) 34 (fArr (dig v)) ∧ Below w.heap.size w wr ∧ O2 + 2 ≤ wr.heap.size) (fun i _ => len2 - (intOf i).toNat)
    case atStart => exact ⟨0, by omega, rfl, _, _, _, _, hel1, hel2, hX, hU, hY, hV, hB2, hS2⟩
    case round =>
      obtain ⟨wa, rfl⟩ : ∃ wa : World, wa = wr := ⟨_, rfl⟩
      obtain ⟨k, hk, rfl, x, y, u, v, hex, hey, hX, hU, hY, hV, hB, hS⟩ := hrel
      clear hel1 hel2 hB2 hS2
      by_cases hlt : k < len2
      · have HEX := Lib.hid hex
        have HEY := Lib.hid hey
        have HXs := Lib.hid (gArr_size x.at)
        have HX1' := Lib.hid (gArr_one x.at)
        have HUs := Lib.hid (fArr_size (dig u))
        have HU1' := Lib.hid (fArr_one (dig u))
        clear hex hey
        have hlt' : (k : Int) < len2 := by omega
        have hS0 : Box wa.drew O1 27 (gArr x.at) ∧ Box wa.drew (O1 + 1) 34 (fArr (dig u)) := ⟨hX, hU⟩
        go_upto_region 8 with fail
        go_cut [14, 15] from 40 to 90 (fun s14 s15 w' => ∃ Oz Ow, s14 = .pointer (some ⟨Oz, 0, none⟩) ∧ s15 = .pointer (some ⟨Ow, 0, none⟩) ∧ Oz ≠ Ow ∧ O2 + 2 ≤ Oz ∧ O2 + 2 ≤ Ow ∧ Box w' Oz 27 (gArr x.at) ∧ Box w' Ow 34 (fArr (dig u)) ∧ Box w' O1 27 (gArr x.at) ∧ Box w' (O1 + 1) 34 (fArr (dig u)) ∧ Box w' O2 27 (gArr y.at) ∧ Box w' (O2 + 1) 34 (fArr (dig v)) ∧ Below w.heap.size w w' ∧ O2 + 2 ≤ w'.heap.size)
        case first =>
          refine wp_region_held_drew (S := fun w' => Box w' O1 27 (gArr x.at) ∧ Box w' (O1 + 1) 34 (fArr (dig u))) rfl hS0 (fun _ => ?_)
          refine wpH_take 0 rfl (by kernel_rfl) (by kernel_rfl) (by kernel_rfl) rfl (fun _ _ _ _ h => h) (.agg (gArr x.at)) (fun w' h => run_load_box rfl (h.1) (by rfl) Try.underlying27 rfl (by rw [HXs.out]; kernel_rfl)) hS0 ?_
          refine wpH_take 1 rfl (by kernel_rfl) (by kernel_rfl) (by kernel_rfl) rfl (fun _ _ _ _ h => h) (.agg (fArr (dig u))) (fun w' h => run_load_box rfl (h.2) (by rfl) Try.underlying34 rfl (by rw [HUs.out]; kernel_rfl)) hS0 ?_
          refine wpH_two_runs 2 3 rfl rfl (by kernel_rfl) rfl rfl (.pointer (some ⟨wa.heap.size, 0, none⟩)) (wa.drew.alloc (.cells #[.int .u64 0, .int .u64 0, .int .u64 0, .int .u64 0, .int .u64 0] 27)) (by simp [go_sem]) ⟨hX.drew.alloc _, hU.drew.alloc _⟩ (.pointer (some ⟨wa.heap.size, 0, none⟩)) (wa.drew.alloc (.cells (Array.replicate 16 (Value.int .u64 0)) 34)) (by simp [go_sem]; rfl) ⟨hX.drew.alloc _, hU.drew.alloc _⟩ ?_ ?_
          · have hS1 : Box ((wa.drew.alloc (.cells #[.int .u64 0, .int .u64 0, .int .u64 0, .int .u64 0, .int .u64 0] 27)).alloc (.cells (Array.replicate 16 (Value.int .u64 0)) 34)) O1 27 (gArr x.at) ∧ Box ((wa.drew.alloc (.cells #[.int .u64 0, .int .u64 0, .int .u64 0, .int .u64 0, .int .u64 0] 27)).alloc (.cells (Array.replicate 16 (Value.int .u64 0)) 34)) (O1 + 1) 34 (fArr (dig u)) := ⟨(hX.drew.alloc _).alloc _, (hU.drew.alloc _).alloc _⟩
            refine wpH_run 3 rfl (by kernel_rfl) rfl (.pointer (some ⟨wa.heap.size + 1, 0, none⟩)) ((wa.drew.alloc (.cells #[.int .u64 0, .int .u64 0, .int .u64 0, .int .u64 0, .int .u64 0] 27)).alloc (.cells (Array.replicate 16 (Value.int .u64 0)) 34)) (by simp [go_sem]; rfl) hS1 ?_
            have y1 : Box ((wa.drew.alloc (.cells #[.int .u64 0, .int .u64 0, .int .u64 0, .int .u64 0, .int .u64 0] 27)).alloc (.cells (Array.replicate 16 (Value.int .u64 0)) 34)) O2 27 (gArr y.at) := (hY.drew.alloc _).alloc _
            have y2 : Box ((wa.drew.alloc (.cells #[.int .u64 0, .int .u64 0, .int .u64 0, .int .u64 0, .int .u64 0] 27)).alloc (.cells (Array.replicate 16 (Value.int .u64 0)) 34)) (O2 + 1) 34 (fArr (dig v)) := (hV.drew.alloc _).alloc _
            have y3 : Below w.heap.size w ((wa.drew.alloc (.cells #[.int .u64 0, .int .u64 0, .int .u64 0, .int .u64 0, .int .u64 0] 27)).alloc (.cells (Array.replicate 16 (Value.int .u64 0)) 34)) := (hB.drew.alloc (by simp; omega) _).alloc (by simp; omega) _
            have y4 : Box ((wa.drew.alloc (.cells #[.int .u64 0, .int .u64 0, .int .u64 0, .int .u64 0, .int .u64 0] 27)).alloc (.cells (Array.replicate 16 (Value.int .u64 0)) 34)) (wa.heap.size) 27 #[.int .u64 0, .int .u64 0, .int .u64 0, .int .u64 0, .int .u64 0] := (Box.new wa.drew 27 #[.int .u64 0, .int .u64 0, .int .u64 0, .int .u64 0, .int .u64 0]).alloc _
            have y5 : Box ((wa.drew.alloc (.cells #[.int .u64 0, .int .u64 0, .int .u64 0, .int .u64 0, .int .u64 0] 27)).alloc (.cells (Array.replicate 16 (Value.int .u64 0)) 34)) (wa.heap.size + 1) 34 (Array.replicate 16 (Value.int .u64 0)) := by
              have := Box.new (wa.drew.alloc (.cells #[.int .u64 0, .int .u64 0, .int .u64 0, .int .u64 0, .int .u64 0] 27)) 34 (Array.replicate 16 (Value.int .u64 0))
              simp only [World.size_alloc] at this
              exact this
            have y6 : wa.heap.size + 2 ≤ ((wa.drew.alloc (.cells #[.int .u64 0, .int .u64 0, .int .u64 0, .int .u64 0, .int .u64 0] 27)).alloc (.cells (Array.replicate 16 (Value.int .u64 0)) 34)).heap.size := by simp
            generalize ((wa.drew.alloc (.cells #[.int .u64 0, .int .u64 0, .int .u64 0, .int .u64 0, .int .u64 0] 27)).alloc (.cells (Array.replicate 16 (Value.int .u64 0)) 34)) = wq at *
            refine wpH_store_box 4 rfl (by kernel_rfl) rfl 27 (.tmp 14) (.tmp 46) rfl y4 (by simp [go_sem, Act.put]) (by simp [go_sem, Act.put]) (by rw [HXs.out]; rfl) (by rw [HXs.out]; kernel_rfl) HX1'.out ?_
            intro wr1 r1 st1
            refine ⟨⟨st1.box hS1.1 (by omega), st1.box hS1.2 (by omega)⟩, ?_⟩
            refine wpH_store_box 5 rfl (by kernel_rfl) rfl 34 (.tmp 15) (.tmp 47) rfl (st1.box y5 (by omega)) (by simp [go_sem, Act.put]) (by simp [go_sem, Act.put]) (by rw [HUs.out]; rfl) (by rw [HUs.out]; kernel_rfl) HU1'.out ?_
            intro wr2 r2 st2
            refine ⟨⟨st2.box (st1.box hS1.1 (by omega)) (by omega), st2.box (st1.box hS1.2 (by omega)) (by omega)⟩, ?_⟩
            refine wpAnyH_done (by kernel_rfl) ?_ _
            have fin : ∃ Oz Ow, Value.pointer (some ⟨wa.heap.size, 0, none⟩) = .pointer (some ⟨Oz, 0, none⟩) ∧ Value.pointer (some ⟨wa.heap.size + 1, 0, none⟩) = .pointer (some ⟨Ow, 0, none⟩) ∧ Oz ≠ Ow ∧ O2 + 2 ≤ Oz ∧ O2 + 2 ≤ Ow ∧ Box wr2 Oz 27 (gArr x.at) ∧ Box wr2 Ow 34 (fArr (dig u)) ∧ Box wr2 O1 27 (gArr x.at) ∧ Box wr2 (O1 + 1) 34 (fArr (dig u)) ∧ Box wr2 O2 27 (gArr y.at) ∧ Box wr2 (O2 + 1) 34 (fArr (dig v)) ∧ Below w.heap.size w wr2 ∧ O2 + 2 ≤ wr2.heap.size :=
              ⟨_, _, rfl, rfl, by omega, by omega, by omega, st2.box r1 (by omega), r2, st2.box (st1.box hS1.1 (by omega)) (by omega), st2.box (st1.box hS1.2 (by omega)) (by omega), st2.box (st1.box y1 (by omega)) (by omega), st2.box (st1.box y2 (by omega)) (by omega), st2.below _ _ (by omega) (st1.below _ _ (by omega) y3), by have := st2.size; have := st1.size; omega⟩
            simp only [Act.put, List.setIfInBounds_toArray, List.set_cons_zero, List.set_cons_succ]
            clear st1 st2 hS1 y1 y2 y3 y4 y5 y6 hS0 hX hU hY hV hB
            go_wp2_with fail
            go_meet
            case rel => exact fin
          · have hS1 : Box ((wa.drew.alloc (.cells (Array.replicate 16 (Value.int .u64 0)) 34)).alloc (.cells #[.int .u64 0, .int .u64 0, .int .u64 0, .int .u64 0, .int .u64 0] 27)) O1 27 (gArr x.at) ∧ Box ((wa.drew.alloc (.cells (Array.replicate 16 (Value.int .u64 0)) 34)).alloc (.cells #[.int .u64 0, .int .u64 0, .int .u64 0, .int .u64 0, .int .u64 0] 27)) (O1 + 1) 34 (fArr (dig u)) := ⟨(hX.drew.alloc _).alloc _, (hU.drew.alloc _).alloc _⟩
            refine wpH_run 2 rfl (by kernel_rfl) rfl (.pointer (some ⟨wa.heap.size + 1, 0, none⟩)) ((wa.drew.alloc (.cells (Array.replicate 16 (Value.int .u64 0)) 34)).alloc (.cells #[.int .u64 0, .int .u64 0, .int .u64 0, .int .u64 0, .int .u64 0] 27)) (by simp [go_sem]) hS1 ?_
            have y1 : Box ((wa.drew.alloc (.cells (Array.replicate 16 (Value.int .u64 0)) 34)).alloc (.cells #[.int .u64 0, .int .u64 0, .int .u64 0, .int .u64 0, .int .u64 0] 27)) O2 27 (gArr y.at) := (hY.drew.alloc _).alloc _
            have y2 : Box ((wa.drew.alloc (.cells (Array.replicate 16 (Value.int .u64 0)) 34)).alloc (.cells #[.int .u64 0, .int .u64 0, .int .u64 0, .int .u64 0, .int .u64 0] 27)) (O2 + 1) 34 (fArr (dig v)) := (hV.drew.alloc _).alloc _
            have y3 : Below w.heap.size w ((wa.drew.alloc (.cells (Array.replicate 16 (Value.int .u64 0)) 34)).alloc (.cells #[.int .u64 0, .int .u64 0, .int .u64 0, .int .u64 0, .int .u64 0] 27)) := (hB.drew.alloc (by simp; omega) _).alloc (by simp; omega) _
            have y5 : Box ((wa.drew.alloc (.cells (Array.replicate 16 (Value.int .u64 0)) 34)).alloc (.cells #[.int .u64 0, .int .u64 0, .int .u64 0, .int .u64 0, .int .u64 0] 27)) (wa.heap.size) 34 (Array.replicate 16 (Value.int .u64 0)) := (Box.new wa.drew 34 (Array.replicate 16 (Value.int .u64 0))).alloc _
            have y4 : Box ((wa.drew.alloc (.cells (Array.replicate 16 (Value.int .u64 0)) 34)).alloc (.cells #[.int .u64 0, .int .u64 0, .int .u64 0, .int .u64 0, .int .u64 0] 27)) (wa.heap.size + 1) 27 #[.int .u64 0, .int .u64 0, .int .u64 0, .int .u64 0, .int .u64 0] := by
              have := Box.new (wa.drew.alloc (.cells (Array.replicate 16 (Value.int .u64 0)) 34)) 27 #[.int .u64 0, .int .u64 0, .int .u64 0, .int .u64 0, .int .u64 0]
              simp only [World.size_alloc] at this
              exact this
            have y6 : wa.heap.size + 2 ≤ ((wa.drew.alloc (.cells (Array.replicate 16 (Value.int .u64 0)) 34)).alloc (.cells #[.int .u64 0, .int .u64 0, .int .u64 0, .int .u64 0, .int .u64 0] 27)).heap.size := by simp
            generalize ((wa.drew.alloc (.cells (Array.replicate 16 (Value.int .u64 0)) 34)).alloc (.cells #[.int .u64 0, .int .u64 0, .int .u64 0, .int .u64 0, .int .u64 0] 27)) = wq at *
            refine wpH_store_box 4 rfl (by kernel_rfl) rfl 27 (.tmp 14) (.tmp 46) rfl y4 (by simp [go_sem, Act.put]) (by simp [go_sem, Act.put]) (by rw [HXs.out]; rfl) (by rw [HXs.out]; kernel_rfl) HX1'.out ?_
            intro wr1 r1 st1
            refine ⟨⟨st1.box hS1.1 (by omega), st1.box hS1.2 (by omega)⟩, ?_⟩
            refine wpH_store_box 5 rfl (by kernel_rfl) rfl 34 (.tmp 15) (.tmp 47) rfl (st1.box y5 (by omega)) (by simp [go_sem, Act.put]) (by simp [go_sem, Act.put]) (by rw [HUs.out]; rfl) (by rw [HUs.out]; kernel_rfl) HU1'.out ?_
            intro wr2 r2 st2
            refine ⟨⟨st2.box (st1.box hS1.1 (by omega)) (by omega), st2.box (st1.box hS1.2 (by omega)) (by omega)⟩, ?_⟩
            refine wpAnyH_done (by kernel_rfl) ?_ _
            have fin : ∃ Oz Ow, Value.pointer (some ⟨wa.heap.size + 1, 0, none⟩) = .pointer (some ⟨Oz, 0, none⟩) ∧ Value.pointer (some ⟨wa.heap.size, 0, none⟩) = .pointer (some ⟨Ow, 0, none⟩) ∧ Oz ≠ Ow ∧ O2 + 2 ≤ Oz ∧ O2 + 2 ≤ Ow ∧ Box wr2 Oz 27 (gArr x.at) ∧ Box wr2 Ow 34 (fArr (dig u)) ∧ Box wr2 O1 27 (gArr x.at) ∧ Box wr2 (O1 + 1) 34 (fArr (dig u)) ∧ Box wr2 O2 27 (gArr y.at) ∧ Box wr2 (O2 + 1) 34 (fArr (dig v)) ∧ Below w.heap.size w wr2 ∧ O2 + 2 ≤ wr2.heap.size :=
              ⟨_, _, rfl, rfl, by omega, by omega, by omega, st2.box r1 (by omega), r2, st2.box (st1.box hS1.1 (by omega)) (by omega), st2.box (st1.box hS1.2 (by omega)) (by omega), st2.box (st1.box y1 (by omega)) (by omega), st2.box (st1.box y2 (by omega)) (by omega), st2.below _ _ (by omega) (st1.below _ _ (by omega) y3), by have := st2.size; have := st1.size; omega⟩
            simp only [Act.put, List.setIfInBounds_toArray, List.set_cons_zero, List.set_cons_succ]
            clear st1 st2 hS1 y1 y2 y3 y4 y5 y6 hS0 hX hU hY hV hB
            go_wp2_with fail
            go_meet
            case rel => exact fin
        case rest =>
          obtain ⟨Oz, Ow, rfl, rfl, hne, hOz, hOw, hZ, hW, hX, hU, hY, hV, hBc, hSc⟩ := hcut
          have hSl := HSL.out wc hBc
          obtain ⟨b, o, rfl, hcc⟩ : ∃ b o, a2 = some ⟨b, o, none⟩ ∧ ∀ i, i < len2 → wc.cell? ⟨b, o + i, none⟩ = some (.int .u8 ((l2.getD i 0).toNat : Int)) := by
            rcases hSl.2.2.2.2 with h | h
            · omega
            · exact h
          have c0 := hcc k hlt
          have hcl := (l2.getD k 0).toNat_lt
          obtain ⟨c, hc⟩ : ∃ c, c = (l2.getD k 0).toNat := ⟨_, rfl⟩
          rw [← hc] at c0 hcl
          obtain ⟨q, hq⟩ : ∃ q, q = c % 4 := ⟨_, rfl⟩
          have e1 : (c : Int) % 4 = (q : Int) := by omega
          have hq4 : q < 4 := by omega
          have hex := HEX.out
          have hey := HEY.out
          clear hcc hSl hc hq
          have hee := Lib.hid (And.intro hex hey)
          clear hex hey
          have hq' : q = 0 ∨ q = 1 ∨ q = 2 ∨ q = 3 := by omega
          rcases hq' with rfl | rfl | rfl | rfl
          · obtain ⟨z, n, HC1, HC2, hez⟩ : ∃ (z : L5) (n : Nat), Hid (∀ w : World, Calls Try.prog 33 #[.agg (gArr x.at), .agg (gArr y.at)] w fun e w' => e = .returned (.agg (gArr z.at)) ∧ Below w.heap.size w w') ∧
                Hid (∀ w : World, Calls Try.prog 37 #[.agg (fArr (dig u)), .agg (fArr (dig v))] w fun e w' => e = .returned (.agg (fArr (dig n))) ∧ Below w.heap.size w w') ∧ Hid (El z n) :=
              ⟨x.add y, (u + v) % P25, Lib.hid (add_g _ _ (lt_mono hee.out.1.1 (by omega)) (lt_mono hee.out.2.1 (by omega))), Lib.hid (fun w => refAdd_any u v w (by have := hee.out.1.2.1; have := hee.out.2.2.1; unfold P25 at *; omega) (by have := hee.out.1.2.1; have := hee.out.2.2.1; unfold P25 at *; omega)), Lib.hid (el_add hee.out.1 hee.out.2)⟩
            have HSAME : Hid (∀ w : World, Calls Try.prog 21 #[.agg (gArr z.at), .agg (fArr (dig n))] w fun e w' => e = .returned (.bool true) ∧ Below w.heap.size w w') := by
              refine Lib.hid fun w => ?_
              have hh := hez.out
              have := sameLaw_any z n w (lt_mono hh.1 (by omega)) (by have := hh.2.1; unfold P25 at this; omega)
              rw [hh.2.2, beq_self_eq_true] at this
              exact this
            go_upto_region 12 with fail
            have hq0 : Below (O2 + 2) wc wc.drew := (Below.refl _ _).drew
            refine wp_region_held_drew (S := fun w' => Below (O2 + 2) wc w') rfl hq0 (fun _ => ?_)
            refine wpH_take 0 rfl (by kernel_rfl) (by kernel_rfl) (by kernel_rfl) rfl (fun _ _ _ _ h => h) (.agg (gArr x.at)) (fun w' h => run_load_box rfl (hX.below h (by omega)) (by simp [go_sem]) Try.underlying27 rfl (by rw [gArr_size]; kernel_rfl)) hq0 ?_
            refine wpH_take 1 rfl (by kernel_rfl) (by kernel_rfl) (by kernel_rfl) rfl (fun _ _ _ _ h => h) (.agg (gArr y.at)) (fun w' h => run_load_box rfl (hY.below h (by omega)) (by simp [go_sem, Act.put]) Try.underlying27 rfl (by rw [gArr_size]; kernel_rfl)) hq0 ?_
            refine wpH_take 3 rfl (by kernel_rfl) (by kernel_rfl) (by kernel_rfl) rfl (fun _ _ _ _ h => h) (.agg (fArr (dig u))) (fun w' h => run_load_box rfl (hU.below h (by omega)) (by simp [go_sem, Act.put]) Try.underlying34 rfl (by rw [fArr_size]; kernel_rfl)) hq0 ?_
            refine wpH_take 4 rfl (by kernel_rfl) (by kernel_rfl) (by kernel_rfl) rfl (fun _ _ _ _ h => h) (.agg (fArr (dig v))) (fun w' h => run_load_box rfl (hV.below h (by omega)) (by simp [go_sem, Act.put]) Try.underlying34 rfl (by rw [fArr_size]; kernel_rfl)) hq0 ?_
            refine wpH_enter 2 rfl (by kernel_rfl) rfl 33 #[.agg (gArr x.at), .agg (gArr y.at)] (by simp [go_sem, Act.put]) _ (HC1.out _) ?_
            rintro e w1 ⟨rfl, hb1⟩
            have k1 := hq0.trans (hb1.mono (by simp; omega))
            refine ⟨_, rfl, k1, ?_⟩
            refine wpH_enter 5 rfl (by kernel_rfl) rfl 37 #[.agg (fArr (dig u)), .agg (fArr (dig v))] (by simp [go_sem, Act.put]) _ (HC2.out _) ?_
            rintro e w2 ⟨rfl, hb2⟩
            have hsz1 := hb1.size
            simp only [World.size_drew] at hsz1
            have k2 := k1.trans (hb2.mono (by omega))
            have hsz2 := hb2.size
            refine ⟨_, rfl, k2, ?_⟩
            have zb := (hZ.drew.after hb1).after hb2
            have wb := (hW.drew.after hb1).after hb2
            have bb := (hBc.drew.trans (hb1.mono (by simp; omega))).trans (hb2.mono (by omega))
            refine wpH_store_box (cells := gArr z.at) 6 rfl (by kernel_rfl) rfl 27 (.tmp 14) (.tmp 63) rfl zb (by simp [go_sem, Act.put]) (by simp [go_sem, Act.put]) (by rw [gArr_size, gArr_size]) (by rw [gArr_size]; kernel_rfl) (gArr_one _) ?_
            intro w3 zb3 st3
            refine ⟨st3.below _ _ (by omega) k2, ?_⟩
            refine wpH_store_box (cells := fArr (dig n)) 7 rfl (by kernel_rfl) rfl 34 (.tmp 15) (.tmp 66) rfl (st3.box wb (by omega)) (by simp [go_sem, Act.put]) (by simp [go_sem, Act.put]) (by rw [fArr_size, fArr_size]) (by rw [fArr_size]; kernel_rfl) (fArr_one _) ?_
            intro w4 wb4 st4
            have k4 := st4.below _ _ (by omega) (st3.below _ _ (by omega) k2)
            refine ⟨k4, ?_⟩
            refine wpAnyH_done (by kernel_rfl) ?_ _
            have jX := hX.below k4 (by omega)
            have jU := hU.below k4 (by omega)
            have jY := hY.below k4 (by omega)
            have jV := hV.below k4 (by omega)
            have jZ := st4.box zb3 (by omega)
            have jW := wb4
            have jB := st4.below w.heap.size w (by omega) (st3.below w.heap.size w (by omega) bb)
            have jS : O2 + 2 ≤ w4.heap.size := by rw [st4.size, st3.size]; omega
            simp only [Act.put, List.setIfInBounds_toArray, List.set_cons_zero, List.set_cons_succ]
            clear st3 st4 k1 k2 k4 zb wb zb3 wb4 bb hb1 hb2 hsz1 hsz2 hq0 hX hU hY hV hZ hW hBc hSc
            go_upto_region 17 with fail
            go_step
            refine wpList_made 4 w4.heap.size w4 (Below.refl _ _) ?_
            simp only [List.take_succ_cons, List.take_zero, List.drop_succ_cons, List.drop_zero]
            refine wpQ_load_box rfl 27 _ rfl jZ (by rfl) jZ.lt Try.underlying27 rfl (by rw [gArr_size]; kernel_rfl) ?_
            simp only [Act.put, List.setIfInBounds_toArray, List.set_cons_zero, List.set_cons_succ]
            refine wpQ_load_box rfl 34 _ rfl jW (by rfl) jW.lt Try.underlying34 rfl (by rw [fArr_size]; kernel_rfl) ?_
            simp only [Act.put, List.setIfInBounds_toArray, List.set_cons_zero, List.set_cons_succ]
            refine wpQ_call rfl 21 #[.agg (gArr z.at), .agg (fArr (dig n))] (fun w => by simp [go_sem]) _ (Nat.le_refl _) HSAME.out ?_
            simp only [Act.put, List.setIfInBounds_toArray, List.set_cons_zero, List.set_cons_succ]
            refine wpQ_run rfl (.bool false) (fun w hw => by simp [go_sem]) ?_
            simp only [Act.put, List.setIfInBounds_toArray, List.set_cons_zero, List.set_cons_succ]
            intro w5 hb5
            have lX := (jX.after hb5).drew
            have lU := (jU.after hb5).drew
            have lY := (jY.after hb5).drew
            have lV := (jV.after hb5).drew
            have lZ := (jZ.after hb5).drew
            have lN := (jW.after hb5).drew
            have lB := (jB.trans (hb5.mono (by omega))).drew
            have lS : O2 + 2 ≤ w5.drew.heap.size := by have := hb5.size; simp; omega
            clear jX jU jY jV jZ jW jB jS hb5
            go_upto_region 19 with fail
            refine wp_region_held_drew (S := fun w' => Box w' Oz 27 (gArr z.at) ∧ Box w' Ow 34 (fArr (dig n))) rfl ⟨lZ, lN⟩ (fun hq1 => ?_)
            generalize w5.drew = wl at *
            refine wpH_take 2 rfl (by kernel_rfl) (by kernel_rfl) (by kernel_rfl) rfl (fun _ _ _ _ h => h) (.agg (gArr z.at)) (fun w' h => run_load_box rfl (h.1) (by simp [go_sem]) Try.underlying27 rfl (by rw [gArr_size]; kernel_rfl)) hq1 ?_
            refine wpH_take 3 rfl (by kernel_rfl) (by kernel_rfl) (by kernel_rfl) rfl (fun _ _ _ _ h => h) (.agg (fArr (dig n))) (fun w' h => run_load_box rfl (h.2) (by simp [go_sem, Act.put]) Try.underlying34 rfl (by rw [fArr_size]; kernel_rfl)) hq1 ?_
            refine wpH_two_runs 0 1 rfl rfl (by kernel_rfl) rfl rfl (.agg (gArr y.at)) wl (run_load_box rfl (lY) (by simp [go_sem, Act.put]) Try.underlying27 rfl (by rw [gArr_size]; kernel_rfl)) ⟨lZ, lN⟩ (.agg (fArr (dig v))) wl (run_load_box rfl (lV) (by simp [go_sem, Act.put]) Try.underlying34 rfl (by rw [fArr_size]; kernel_rfl)) ⟨lZ, lN⟩ ?_ ?_
            · refine wpH_run_or_store (cells := gArr y.at) 1 4 rfl rfl (by kernel_rfl) rfl rfl (.agg (fArr (dig v))) (run_load_box rfl (lV) (by simp [go_sem, Act.put]) Try.underlying34 rfl (by rw [fArr_size]; kernel_rfl)) ⟨lZ, lN⟩ 27 (.tmp 7) (.tmp 87) rfl lX (by simp [go_sem, Act.put]) (by simp [go_sem, Act.put]) (by rw [gArr_size, gArr_size]) (by rw [gArr_size]; kernel_rfl) (gArr_one _) ?_ ?_
              · refine wpH_store_box (cells := (gArr y.at)) 4 rfl (by kernel_rfl) rfl 27 (.tmp 7) (.tmp 87) rfl (lX) (by simp [go_sem, Act.put]) (by simp [go_sem, Act.put]) (by rw [gArr_size, gArr_size]) (by rw [gArr_size]; kernel_rfl) (gArr_one _) ?_
                intro ws4 r4 st4
                refine ⟨⟨st4.box lZ (by omega), st4.box lN (by omega)⟩, ?_⟩
                refine wpH_store_box (cells := (fArr (dig v))) 5 rfl (by kernel_rfl) rfl 34 (.tmp 8) (.tmp 88) rfl (st4.box lU (by omega)) (by simp [go_sem, Act.put]) (by simp [go_sem, Act.put]) (by rw [fArr_size, fArr_size]) (by rw [fArr_size]; kernel_rfl) (fArr_one _) ?_
                intro ws5 r5 st5
                refine ⟨⟨st5.box (st4.box lZ (by omega)) (by omega), st5.box (st4.box lN (by omega)) (by omega)⟩, ?_⟩
                refine wpH_store_box (cells := (gArr z.at)) 6 rfl (by kernel_rfl) rfl 27 (.tmp 10) (.tmp 89) rfl (st5.box (st4.box lY (by omega)) (by omega)) (by simp [go_sem, Act.put]) (by simp [go_sem, Act.put]) (by rw [gArr_size, gArr_size]) (by rw [gArr_size]; kernel_rfl) (gArr_one _) ?_
                intro ws6 r6 st6
                refine ⟨⟨st6.box (st5.box (st4.box lZ (by omega)) (by omega)) (by omega), st6.box (st5.box (st4.box lN (by omega)) (by omega)) (by omega)⟩, ?_⟩
                refine wpH_store_box (cells := (fArr (dig n))) 7 rfl (by kernel_rfl) rfl 34 (.tmp 11) (.tmp 90) rfl (st6.box (st5.box (st4.box lV (by omega)) (by omega)) (by omega)) (by simp [go_sem, Act.put]) (by simp [go_sem, Act.put]) (by rw [fArr_size, fArr_size]) (by rw [fArr_size]; kernel_rfl) (fArr_one _) ?_
                intro ws7 r7 st7
                refine ⟨⟨st7.box (st6.box (st5.box (st4.box lZ (by omega)) (by omega)) (by omega)) (by omega), st7.box (st6.box (st5.box (st4.box lN (by omega)) (by omega)) (by omega)) (by omega)⟩, ?_⟩
                refine wpAnyH_done (by kernel_rfl) ?_ _
                have f1 := st7.box (st6.box (st5.box r4 (by omega)) (by omega)) (by omega)
                have f2 := st7.box (st6.box r5 (by omega)) (by omega)
                have f3 := st7.box r6 (by omega)
                have f4 := st7.below w.heap.size w (by omega) (st6.below w.heap.size w (by omega) (st5.below w.heap.size w (by omega) (st4.below w.heap.size w (by omega) lB)))
                have f5 : O2 + 2 ≤ ws7.heap.size := by rw [st7.size, st6.size, st5.size, st4.size]; omega
                simp only [Act.put, List.setIfInBounds_toArray, List.set_cons_zero, List.set_cons_succ]
                clear st4 st5 st6 st7 r4 r5 r6 lX lU lY lV lZ lN lB lS
                go_wp2_with fail
                exact ⟨⟨k + 1, by omega, by go_num, y, z, v, n, HEY.out, hez.out, f1, f2, f3, r7, f4, f5⟩, by simp [intOf]; omega⟩
              · intro ws4 r4 st4
                refine ⟨⟨st4.box lZ (by omega), st4.box lN (by omega)⟩, ?_⟩
                refine wpH_run 1 rfl (by kernel_rfl) rfl (.agg (fArr (dig v))) ws4 (run_load_box rfl (st4.box lV (by omega)) (by simp [go_sem, Act.put]) Try.underlying34 rfl (by rw [fArr_size]; kernel_rfl)) ⟨st4.box lZ (by omega), st4.box lN (by omega)⟩ ?_
                refine wpH_store_box (cells := (fArr (dig v))) 5 rfl (by kernel_rfl) rfl 34 (.tmp 8) (.tmp 88) rfl (st4.box lU (by omega)) (by simp [go_sem, Act.put]) (by simp [go_sem, Act.put]) (by rw [fArr_size, fArr_size]) (by rw [fArr_size]; kernel_rfl) (fArr_one _) ?_
                intro ws5 r5 st5
                refine ⟨⟨st5.box (st4.box lZ (by omega)) (by omega), st5.box (st4.box lN (by omega)) (by omega)⟩, ?_⟩
                refine wpH_store_box (cells := (gArr z.at)) 6 rfl (by kernel_rfl) rfl 27 (.tmp 10) (.tmp 89) rfl (st5.box (st4.box lY (by omega)) (by omega)) (by simp [go_sem, Act.put]) (by simp [go_sem, Act.put]) (by rw [gArr_size, gArr_size]) (by rw [gArr_size]; kernel_rfl) (gArr_one _) ?_
                intro ws6 r6 st6
                refine ⟨⟨st6.box (st5.box (st4.box lZ (by omega)) (by omega)) (by omega), st6.box (st5.box (st4.box lN (by omega)) (by omega)) (by omega)⟩, ?_⟩
                refine wpH_store_box (cells := (fArr (dig n))) 7 rfl (by kernel_rfl) rfl 34 (.tmp 11) (.tmp 90) rfl (st6.box (st5.box (st4.box lV (by omega)) (by omega)) (by omega)) (by simp [go_sem, Act.put]) (by simp [go_sem, Act.put]) (by rw [fArr_size, fArr_size]) (by rw [fArr_size]; kernel_rfl) (fArr_one _) ?_
                intro ws7 r7 st7
                refine ⟨⟨st7.box (st6.box (st5.box (st4.box lZ (by omega)) (by omega)) (by omega)) (by omega), st7.box (st6.box (st5.box (st4.box lN (by omega)) (by omega)) (by omega)) (by omega)⟩, ?_⟩
                refine wpAnyH_done (by kernel_rfl) ?_ _
                have f1 := st7.box (st6.box (st5.box r4 (by omega)) (by omega)) (by omega)
                have f2 := st7.box (st6.box r5 (by omega)) (by omega)
                have f3 := st7.box r6 (by omega)
                have f4 := st7.below w.heap.size w (by omega) (st6.below w.heap.size w (by omega) (st5.below w.heap.size w (by omega) (st4.below w.heap.size w (by omega) lB)))
                have f5 : O2 + 2 ≤ ws7.heap.size := by rw [st7.size, st6.size, st5.size, st4.size]; omega
                simp only [Act.put, List.setIfInBounds_toArray, List.set_cons_zero, List.set_cons_succ]
                clear st4 st5 st6 st7 r4 r5 r6 lX lU lY lV lZ lN lB lS
                go_wp2_with fail
                exact ⟨⟨k + 1, by omega, by go_num, y, z, v, n, HEY.out, hez.out, f1, f2, f3, r7, f4, f5⟩, by simp [intOf]; omega⟩
            · refine wpH_run 0 rfl (by kernel_rfl) rfl (.agg (gArr y.at)) wl (run_load_box rfl (lY) (by simp [go_sem, Act.put]) Try.underlying27 rfl (by rw [gArr_size]; kernel_rfl)) ⟨lZ, lN⟩ ?_
              refine wpH_store_box (cells := (gArr y.at)) 4 rfl (by kernel_rfl) rfl 27 (.tmp 7) (.tmp 87) rfl (lX) (by simp [go_sem, Act.put]) (by simp [go_sem, Act.put]) (by rw [gArr_size, gArr_size]) (by rw [gArr_size]; kernel_rfl) (gArr_one _) ?_
              intro ws4 r4 st4
              refine ⟨⟨st4.box lZ (by omega), st4.box lN (by omega)⟩, ?_⟩
              refine wpH_store_box (cells := (fArr (dig v))) 5 rfl (by kernel_rfl) rfl 34 (.tmp 8) (.tmp 88) rfl (st4.box lU (by omega)) (by simp [go_sem, Act.put]) (by simp [go_sem, Act.put]) (by rw [fArr_size, fArr_size]) (by rw [fArr_size]; kernel_rfl) (fArr_one _) ?_
              intro ws5 r5 st5
              refine ⟨⟨st5.box (st4.box lZ (by omega)) (by omega), st5.box (st4.box lN (by omega)) (by omega)⟩, ?_⟩
              refine wpH_store_box (cells := (gArr z.at)) 6 rfl (by kernel_rfl) rfl 27 (.tmp 10) (.tmp 89) rfl (st5.box (st4.box lY (by omega)) (by omega)) (by simp [go_sem, Act.put]) (by simp [go_sem, Act.put]) (by rw [gArr_size, gArr_size]) (by rw [gArr_size]; kernel_rfl) (gArr_one _) ?_
              intro ws6 r6 st6
              refine ⟨⟨st6.box (st5.box (st4.box lZ (by omega)) (by omega)) (by omega), st6.box (st5.box (st4.box lN (by omega)) (by omega)) (by omega)⟩, ?_⟩
              refine wpH_store_box (cells := (fArr (dig n))) 7 rfl (by kernel_rfl) rfl 34 (.tmp 11) (.tmp 90) rfl (st6.box (st5.box (st4.box lV (by omega)) (by omega)) (by omega)) (by simp [go_sem, Act.put]) (by simp [go_sem, Act.put]) (by rw [fArr_size, fArr_size]) (by rw [fArr_size]; kernel_rfl) (fArr_one _) ?_
              intro ws7 r7 st7
              refine ⟨⟨st7.box (st6.box (st5.box (st4.box lZ (by omega)) (by omega)) (by omega)) (by omega), st7.box (st6.box (st5.box (st4.box lN (by omega)) (by omega)) (by omega)) (by omega)⟩, ?_⟩
              refine wpAnyH_done (by kernel_rfl) ?_ _
              have f1 := st7.box (st6.box (st5.box r4 (by omega)) (by omega)) (by omega)
              have f2 := st7.box (st6.box r5 (by omega)) (by omega)
              have f3 := st7.box r6 (by omega)
              have f4 := st7.below w.heap.size w (by omega) (st6.below w.heap.size w (by omega) (st5.below w.heap.size w (by omega) (st4.below w.heap.size w (by omega) lB)))
              have f5 : O2 + 2 ≤ ws7.heap.size := by rw [st7.size, st6.size, st5.size, st4.size]; omega
              simp only [Act.put, List.setIfInBounds_toArray, List.set_cons_zero, List.set_cons_succ]
              clear st4 st5 st6 st7 r4 r5 r6 lX lU lY lV lZ lN lB lS
              go_wp2_with fail
              exact ⟨⟨k + 1, by omega, by go_num, y, z, v, n, HEY.out, hez.out, f1, f2, f3, r7, f4, f5⟩, by simp [intOf]; omega⟩
          · obtain ⟨z, n, HC1, HC2, hez⟩ : ∃ (z : L5) (n : Nat), Hid (∀ w : World, Calls Try.prog 35 #[.agg (gArr x.at), .agg (gArr y.at)] w fun e w' => e = .returned (.agg (gArr z.at)) ∧ Below w.heap.size w w') ∧
                Hid (∀ w : World, Calls Try.prog 38 #[.agg (fArr (dig u)), .agg (fArr (dig v))] w fun e w' => e = .returned (.agg (fArr (dig n))) ∧ Below w.heap.size w w') ∧ Hid (El z n) :=
              ⟨x.sub y, (u + (P25 - v)) % P25, Lib.hid (sub_g _ _ (lt_mono hee.out.1.1 (by omega)) (lt_mono hee.out.2.1 (by omega))), Lib.hid (fun w => refSub_any u v w hee.out.1.2.1 hee.out.2.2.1), Lib.hid (el_sub hee.out.1 hee.out.2)⟩
            have HSAME : Hid (∀ w : World, Calls Try.prog 21 #[.agg (gArr z.at), .agg (fArr (dig n))] w fun e w' => e = .returned (.bool true) ∧ Below w.heap.size w w') := by
              refine Lib.hid fun w => ?_
              have hh := hez.out
              have := sameLaw_any z n w (lt_mono hh.1 (by omega)) (by have := hh.2.1; unfold P25 at this; omega)
              rw [hh.2.2, beq_self_eq_true] at this
              exact this
            go_upto_region 14 with fail
            have hq0 : Below (O2 + 2) wc wc.drew := (Below.refl _ _).drew
            refine wp_region_held_drew (S := fun w' => Below (O2 + 2) wc w') rfl hq0 (fun _ => ?_)
            refine wpH_take 0 rfl (by kernel_rfl) (by kernel_rfl) (by kernel_rfl) rfl (fun _ _ _ _ h => h) (.agg (gArr x.at)) (fun w' h => run_load_box rfl (hX.below h (by omega)) (by simp [go_sem]) Try.underlying27 rfl (by rw [gArr_size]; kernel_rfl)) hq0 ?_
            refine wpH_take 1 rfl (by kernel_rfl) (by kernel_rfl) (by kernel_rfl) rfl (fun _ _ _ _ h => h) (.agg (gArr y.at)) (fun w' h => run_load_box rfl (hY.below h (by omega)) (by simp [go_sem, Act.put]) Try.underlying27 rfl (by rw [gArr_size]; kernel_rfl)) hq0 ?_
            refine wpH_take 3 rfl (by kernel_rfl) (by kernel_rfl) (by kernel_rfl) rfl (fun _ _ _ _ h => h) (.agg (fArr (dig u))) (fun w' h => run_load_box rfl (hU.below h (by omega)) (by simp [go_sem, Act.put]) Try.underlying34 rfl (by rw [fArr_size]; kernel_rfl)) hq0 ?_
            refine wpH_take 4 rfl (by kernel_rfl) (by kernel_rfl) (by kernel_rfl) rfl (fun _ _ _ _ h => h) (.agg (fArr (dig v))) (fun w' h => run_load_box rfl (hV.below h (by omega)) (by simp [go_sem, Act.put]) Try.underlying34 rfl (by rw [fArr_size]; kernel_rfl)) hq0 ?_
            refine wpH_enter 2 rfl (by kernel_rfl) rfl 35 #[.agg (gArr x.at), .agg (gArr y.at)] (by simp [go_sem, Act.put]) _ (HC1.out _) ?_
            rintro e w1 ⟨rfl, hb1⟩
            have k1 := hq0.trans (hb1.mono (by simp; omega))
            refine ⟨_, rfl, k1, ?_⟩
            refine wpH_enter 5 rfl (by kernel_rfl) rfl 38 #[.agg (fArr (dig u)), .agg (fArr (dig v))] (by simp [go_sem, Act.put]) _ (HC2.out _) ?_
            rintro e w2 ⟨rfl, hb2⟩
            have hsz1 := hb1.size
            simp only [World.size_drew] at hsz1
            have k2 := k1.trans (hb2.mono (by omega))
            have hsz2 := hb2.size
            refine ⟨_, rfl, k2, ?_⟩
            have zb := (hZ.drew.after hb1).after hb2
            have wb := (hW.drew.after hb1).after hb2
            have bb := (hBc.drew.trans (hb1.mono (by simp; omega))).trans (hb2.mono (by omega))
            refine wpH_store_box (cells := gArr z.at) 6 rfl (by kernel_rfl) rfl 27 (.tmp 14) (.tmp 71) rfl zb (by simp [go_sem, Act.put]) (by simp [go_sem, Act.put]) (by rw [gArr_size, gArr_size]) (by rw [gArr_size]; kernel_rfl) (gArr_one _) ?_
            intro w3 zb3 st3
            refine ⟨st3.below _ _ (by omega) k2, ?_⟩
            refine wpH_store_box (cells := fArr (dig n)) 7 rfl (by kernel_rfl) rfl 34 (.tmp 15) (.tmp 74) rfl (st3.box wb (by omega)) (by simp [go_sem, Act.put]) (by simp [go_sem, Act.put]) (by rw [fArr_size, fArr_size]) (by rw [fArr_size]; kernel_rfl) (fArr_one _) ?_
            intro w4 wb4 st4
            have k4 := st4.below _ _ (by omega) (st3.below _ _ (by omega) k2)
            refine ⟨k4, ?_⟩
            refine wpAnyH_done (by kernel_rfl) ?_ _
            have jX := hX.below k4 (by omega)
            have jU := hU.below k4 (by omega)
            have jY := hY.below k4 (by omega)
            have jV := hV.below k4 (by omega)
            have jZ := st4.box zb3 (by omega)
            have jW := wb4
            have jB := st4.below w.heap.size w (by omega) (st3.below w.heap.size w (by omega) bb)
            have jS : O2 + 2 ≤ w4.heap.size := by rw [st4.size, st3.size]; omega
            simp only [Act.put, List.setIfInBounds_toArray, List.set_cons_zero, List.set_cons_succ]
            clear st3 st4 k1 k2 k4 zb wb zb3 wb4 bb hb1 hb2 hsz1 hsz2 hq0 hX hU hY hV hZ hW hBc hSc
            go_upto_region 17 with fail
            go_step
            refine wpList_made 4 w4.heap.size w4 (Below.refl _ _) ?_
            simp only [List.take_succ_cons, List.take_zero, List.drop_succ_cons, List.drop_zero]
            refine wpQ_load_box rfl 27 _ rfl jZ (by rfl) jZ.lt Try.underlying27 rfl (by rw [gArr_size]; kernel_rfl) ?_
            simp only [Act.put, List.setIfInBounds_toArray, List.set_cons_zero, List.set_cons_succ]
            refine wpQ_load_box rfl 34 _ rfl jW (by rfl) jW.lt Try.underlying34 rfl (by rw [fArr_size]; kernel_rfl) ?_
            simp only [Act.put, List.setIfInBounds_toArray, List.set_cons_zero, List.set_cons_succ]
            refine wpQ_call rfl 21 #[.agg (gArr z.at), .agg (fArr (dig n))] (fun w => by simp [go_sem]) _ (Nat.le_refl _) HSAME.out ?_
            simp only [Act.put, List.setIfInBounds_toArray, List.set_cons_zero, List.set_cons_succ]
            refine wpQ_run rfl (.bool false) (fun w hw => by simp [go_sem]) ?_
            simp only [Act.put, List.setIfInBounds_toArray, List.set_cons_zero, List.set_cons_succ]
            intro w5 hb5
            have lX := (jX.after hb5).drew
            have lU := (jU.after hb5).drew
            have lY := (jY.after hb5).drew
            have lV := (jV.after hb5).drew
            have lZ := (jZ.after hb5).drew
            have lN := (jW.after hb5).drew
            have lB := (jB.trans (hb5.mono (by omega))).drew
            have lS : O2 + 2 ≤ w5.drew.heap.size := by have := hb5.size; simp; omega
            clear jX jU jY jV jZ jW jB jS hb5
            go_upto_region 19 with fail
            refine wp_region_held_drew (S := fun w' => Box w' Oz 27 (gArr z.at) ∧ Box w' Ow 34 (fArr (dig n))) rfl ⟨lZ, lN⟩ (fun hq1 => ?_)
            generalize w5.drew = wl at *
            refine wpH_take 2 rfl (by kernel_rfl) (by kernel_rfl) (by kernel_rfl) rfl (fun _ _ _ _ h => h) (.agg (gArr z.at)) (fun w' h => run_load_box rfl (h.1) (by simp [go_sem]) Try.underlying27 rfl (by rw [gArr_size]; kernel_rfl)) hq1 ?_
            refine wpH_take 3 rfl (by kernel_rfl) (by kernel_rfl) (by kernel_rfl) rfl (fun _ _ _ _ h => h) (.agg (fArr (dig n))) (fun w' h => run_load_box rfl (h.2) (by simp [go_sem, Act.put]) Try.underlying34 rfl (by rw [fArr_size]; kernel_rfl)) hq1 ?_
            refine wpH_two_runs 0 1 rfl rfl (by kernel_rfl) rfl rfl (.agg (gArr y.at)) wl (run_load_box rfl (lY) (by simp [go_sem, Act.put]) Try.underlying27 rfl (by rw [gArr_size]; kernel_rfl)) ⟨lZ, lN⟩ (.agg (fArr (dig v))) wl (run_load_box rfl (lV) (by simp [go_sem, Act.put]) Try.underlying34 rfl (by rw [fArr_size]; kernel_rfl)) ⟨lZ, lN⟩ ?_ ?_
            · refine wpH_run_or_store (cells := gArr y.at) 1 4 rfl rfl (by kernel_rfl) rfl rfl (.agg (fArr (dig v))) (run_load_box rfl (lV) (by simp [go_sem, Act.put]) Try.underlying34 rfl (by rw [fArr_size]; kernel_rfl)) ⟨lZ, lN⟩ 27 (.tmp 7) (.tmp 87) rfl lX (by simp [go_sem, Act.put]) (by simp [go_sem, Act.put]) (by rw [gArr_size, gArr_size]) (by rw [gArr_size]; kernel_rfl) (gArr_one _) ?_ ?_
              · refine wpH_store_box (cells := (gArr y.at)) 4 rfl (by kernel_rfl) rfl 27 (.tmp 7) (.tmp 87) rfl (lX) (by simp [go_sem, Act.put]) (by simp [go_sem, Act.put]) (by rw [gArr_size, gArr_size]) (by rw [gArr_size]; kernel_rfl) (gArr_one _) ?_
                intro ws4 r4 st4
                refine ⟨⟨st4.box lZ (by omega), st4.box lN (by omega)⟩, ?_⟩
                refine wpH_store_box (cells := (fArr (dig v))) 5 rfl (by kernel_rfl) rfl 34 (.tmp 8) (.tmp 88) rfl (st4.box lU (by omega)) (by simp [go_sem, Act.put]) (by simp [go_sem, Act.put]) (by rw [fArr_size, fArr_size]) (by rw [fArr_size]; kernel_rfl) (fArr_one _) ?_
                intro ws5 r5 st5
                refine ⟨⟨st5.box (st4.box lZ (by omega)) (by omega), st5.box (st4.box lN (by omega)) (by omega)⟩, ?_⟩
                refine wpH_store_box (cells := (gArr z.at)) 6 rfl (by kernel_rfl) rfl 27 (.tmp 10) (.tmp 89) rfl (st5.box (st4.box lY (by omega)) (by omega)) (by simp [go_sem, Act.put]) (by simp [go_sem, Act.put]) (by rw [gArr_size, gArr_size]) (by rw [gArr_size]; kernel_rfl) (gArr_one _) ?_
                intro ws6 r6 st6
                refine ⟨⟨st6.box (st5.box (st4.box lZ (by omega)) (by omega)) (by omega), st6.box (st5.box (st4.box lN (by omega)) (by omega)) (by omega)⟩, ?_⟩
                refine wpH_store_box (cells := (fArr (dig n))) 7 rfl (by kernel_rfl) rfl 34 (.tmp 11) (.tmp 90) rfl (st6.box (st5.box (st4.box lV (by omega)) (by omega)) (by omega)) (by simp [go_sem, Act.put]) (by simp [go_sem, Act.put]) (by rw [fArr_size, fArr_size]) (by rw [fArr_size]; kernel_rfl) (fArr_one _) ?_
                intro ws7 r7 st7
                refine ⟨⟨st7.box (st6.box (st5.box (st4.box lZ (by omega)) (by omega)) (by omega)) (by omega), st7.box (st6.box (st5.box (st4.box lN (by omega)) (by omega)) (by omega)) (by omega)⟩, ?_⟩
                refine wpAnyH_done (by kernel_rfl) ?_ _
                have f1 := st7.box (st6.box (st5.box r4 (by omega)) (by omega)) (by omega)
                have f2 := st7.box (st6.box r5 (by omega)) (by omega)
                have f3 := st7.box r6 (by omega)
                have f4 := st7.below w.heap.size w (by omega) (st6.below w.heap.size w (by omega) (st5.below w.heap.size w (by omega) (st4.below w.heap.size w (by omega) lB)))
                have f5 : O2 + 2 ≤ ws7.heap.size := by rw [st7.size, st6.size, st5.size, st4.size]; omega
                simp only [Act.put, List.setIfInBounds_toArray, List.set_cons_zero, List.set_cons_succ]
                clear st4 st5 st6 st7 r4 r5 r6 lX lU lY lV lZ lN lB lS
                go_wp2_with fail
                exact ⟨⟨k + 1, by omega, by go_num, y, z, v, n, HEY.out, hez.out, f1, f2, f3, r7, f4, f5⟩, by simp [intOf]; omega⟩
              · intro ws4 r4 st4
                refine ⟨⟨st4.box lZ (by omega), st4.box lN (by omega)⟩, ?_⟩
                refine wpH_run 1 rfl (by kernel_rfl) rfl (.agg (fArr (dig v))) ws4 (run_load_box rfl (st4.box lV (by omega)) (by simp [go_sem, Act.put]) Try.underlying34 rfl (by rw [fArr_size]; kernel_rfl)) ⟨st4.box lZ (by omega), st4.box lN (by omega)⟩ ?_
                refine wpH_store_box (cells := (fArr (dig v))) 5 rfl (by kernel_rfl) rfl 34 (.tmp 8) (.tmp 88) rfl (st4.box lU (by omega)) (by simp [go_sem, Act.put]) (by simp [go_sem, Act.put]) (by rw [fArr_size, fArr_size]) (by rw [fArr_size]; kernel_rfl) (fArr_one _) ?_
                intro ws5 r5 st5
                refine ⟨⟨st5.box (st4.box lZ (by omega)) (by omega), st5.box (st4.box lN (by omega)) (by omega)⟩, ?_⟩
                refine wpH_store_box (cells := (gArr z.at)) 6 rfl (by kernel_rfl) rfl 27 (.tmp 10) (.tmp 89) rfl (st5.box (st4.box lY (by omega)) (by omega)) (by simp [go_sem, Act.put]) (by simp [go_sem, Act.put]) (by rw [gArr_size, gArr_size]) (by rw [gArr_size]; kernel_rfl) (gArr_one _) ?_
                intro ws6 r6 st6
                refine ⟨⟨st6.box (st5.box (st4.box lZ (by omega)) (by omega)) (by omega), st6.box (st5.box (st4.box lN (by omega)) (by omega)) (by omega)⟩, ?_⟩
                refine wpH_store_box (cells := (fArr (dig n))) 7 rfl (by kernel_rfl) rfl 34 (.tmp 11) (.tmp 90) rfl (st6.box (st5.box (st4.box lV (by omega)) (by omega)) (by omega)) (by simp [go_sem, Act.put]) (by simp [go_sem, Act.put]) (by rw [fArr_size, fArr_size]) (by rw [fArr_size]; kernel_rfl) (fArr_one _) ?_
                intro ws7 r7 st7
                refine ⟨⟨st7.box (st6.box (st5.box (st4.box lZ (by omega)) (by omega)) (by omega)) (by omega), st7.box (st6.box (st5.box (st4.box lN (by omega)) (by omega)) (by omega)) (by omega)⟩, ?_⟩
                refine wpAnyH_done (by kernel_rfl) ?_ _
                have f1 := st7.box (st6.box (st5.box r4 (by omega)) (by omega)) (by omega)
                have f2 := st7.box (st6.box r5 (by omega)) (by omega)
                have f3 := st7.box r6 (by omega)
                have f4 := st7.below w.heap.size w (by omega) (st6.below w.heap.size w (by omega) (st5.below w.heap.size w (by omega) (st4.below w.heap.size w (by omega) lB)))
                have f5 : O2 + 2 ≤ ws7.heap.size := by rw [st7.size, st6.size, st5.size, st4.size]; omega
                simp only [Act.put, List.setIfInBounds_toArray, List.set_cons_zero, List.set_cons_succ]
                clear st4 st5 st6 st7 r4 r5 r6 lX lU lY lV lZ lN lB lS
                go_wp2_with fail
                exact ⟨⟨k + 1, by omega, by go_num, y, z, v, n, HEY.out, hez.out, f1, f2, f3, r7, f4, f5⟩, by simp [intOf]; omega⟩
            · refine wpH_run 0 rfl (by kernel_rfl) rfl (.agg (gArr y.at)) wl (run_load_box rfl (lY) (by simp [go_sem, Act.put]) Try.underlying27 rfl (by rw [gArr_size]; kernel_rfl)) ⟨lZ, lN⟩ ?_
              refine wpH_store_box (cells := (gArr y.at)) 4 rfl (by kernel_rfl) rfl 27 (.tmp 7) (.tmp 87) rfl (lX) (by simp [go_sem, Act.put]) (by simp [go_sem, Act.put]) (by rw [gArr_size, gArr_size]) (by rw [gArr_size]; kernel_rfl) (gArr_one _) ?_
              intro ws4 r4 st4
              refine ⟨⟨st4.box lZ (by omega), st4.box lN (by omega)⟩, ?_⟩
              refine wpH_store_box (cells := (fArr (dig v))) 5 rfl (by kernel_rfl) rfl 34 (.tmp 8) (.tmp 88) rfl (st4.box lU (by omega)) (by simp [go_sem, Act.put]) (by simp [go_sem, Act.put]) (by rw [fArr_size, fArr_size]) (by rw [fArr_size]; kernel_rfl) (fArr_one _) ?_
              intro ws5 r5 st5
              refine ⟨⟨st5.box (st4.box lZ (by omega)) (by omega), st5.box (st4.box lN (by omega)) (by omega)⟩, ?_⟩
              refine wpH_store_box (cells := (gArr z.at)) 6 rfl (by kernel_rfl) rfl 27 (.tmp 10) (.tmp 89) rfl (st5.box (st4.box lY (by omega)) (by omega)) (by simp [go_sem, Act.put]) (by simp [go_sem, Act.put]) (by rw [gArr_size, gArr_size]) (by rw [gArr_size]; kernel_rfl) (gArr_one _) ?_
              intro ws6 r6 st6
              refine ⟨⟨st6.box (st5.box (st4.box lZ (by omega)) (by omega)) (by omega), st6.box (st5.box (st4.box lN (by omega)) (by omega)) (by omega)⟩, ?_⟩
              refine wpH_store_box (cells := (fArr (dig n))) 7 rfl (by kernel_rfl) rfl 34 (.tmp 11) (.tmp 90) rfl (st6.box (st5.box (st4.box lV (by omega)) (by omega)) (by omega)) (by simp [go_sem, Act.put]) (by simp [go_sem, Act.put]) (by rw [fArr_size, fArr_size]) (by rw [fArr_size]; kernel_rfl) (fArr_one _) ?_
              intro ws7 r7 st7
              refine ⟨⟨st7.box (st6.box (st5.box (st4.box lZ (by omega)) (by omega)) (by omega)) (by omega), st7.box (st6.box (st5.box (st4.box lN (by omega)) (by omega)) (by omega)) (by omega)⟩, ?_⟩
              refine wpAnyH_done (by kernel_rfl) ?_ _
              have f1 := st7.box (st6.box (st5.box r4 (by omega)) (by omega)) (by omega)
              have f2 := st7.box (st6.box r5 (by omega)) (by omega)
              have f3 := st7.box r6 (by omega)
              have f4 := st7.below w.heap.size w (by omega) (st6.below w.heap.size w (by omega) (st5.below w.heap.size w (by omega) (st4.below w.heap.size w (by omega) lB)))
              have f5 : O2 + 2 ≤ ws7.heap.size := by rw [st7.size, st6.size, st5.size, st4.size]; omega
              simp only [Act.put, List.setIfInBounds_toArray, List.set_cons_zero, List.set_cons_succ]
              clear st4 st5 st6 st7 r4 r5 r6 lX lU lY lV lZ lN lB lS
              go_wp2_with fail
              exact ⟨⟨k + 1, by omega, by go_num, y, z, v, n, HEY.out, hez.out, f1, f2, f3, r7, f4, f5⟩, by simp [intOf]; omega⟩
          · obtain ⟨z, n, HC1, HC2, hez⟩ : ∃ (z : L5) (n : Nat), Hid (∀ w : World, Calls Try.prog 34 #[.agg (gArr x.at), .agg (gArr y.at)] w fun e w' => e = .returned (.agg (gArr z.at)) ∧ Below w.heap.size w w') ∧
                Hid (∀ w : World, Calls Try.prog 39 #[.agg (fArr (dig u)), .agg (fArr (dig v))] w fun e w' => e = .returned (.agg (fArr (dig n))) ∧ Below w.heap.size w w') ∧ Hid (El z n) :=
              ⟨x.mul y, u * v % P25, Lib.hid (mul_g _ _ (lt_mono hee.out.1.1 (by omega)) (lt_mono hee.out.2.1 (by omega))), Lib.hid (fun w => refMul_any u v w (by have := hee.out.1.2.1; have := hee.out.2.2.1; unfold P25 at *; omega) (by have := hee.out.1.2.1; have := hee.out.2.2.1; unfold P25 at *; omega)), Lib.hid (el_mul hee.out.1 hee.out.2)⟩
            have HSAME : Hid (∀ w : World, Calls Try.prog 21 #[.agg (gArr z.at), .agg (fArr (dig n))] w fun e w' => e = .returned (.bool true) ∧ Below w.heap.size w w') := by
              refine Lib.hid fun w => ?_
              have hh := hez.out
              have := sameLaw_any z n w (lt_mono hh.1 (by omega)) (by have := hh.2.1; unfold P25 at this; omega)
              rw [hh.2.2, beq_self_eq_true] at this
              exact this
            go_upto_region 16 with fail
            have hq0 : Below (O2 + 2) wc wc.drew := (Below.refl _ _).drew
            refine wp_region_held_drew (S := fun w' => Below (O2 + 2) wc w') rfl hq0 (fun _ => ?_)
            refine wpH_take 0 rfl (by kernel_rfl) (by kernel_rfl) (by kernel_rfl) rfl (fun _ _ _ _ h => h) (.agg (gArr x.at)) (fun w' h => run_load_box rfl (hX.below h (by omega)) (by simp [go_sem]) Try.underlying27 rfl (by rw [gArr_size]; kernel_rfl)) hq0 ?_
            refine wpH_take 1 rfl (by kernel_rfl) (by kernel_rfl) (by kernel_rfl) rfl (fun _ _ _ _ h => h) (.agg (gArr y.at)) (fun w' h => run_load_box rfl (hY.below h (by omega)) (by simp [go_sem, Act.put]) Try.underlying27 rfl (by rw [gArr_size]; kernel_rfl)) hq0 ?_
            refine wpH_take 3 rfl (by kernel_rfl) (by kernel_rfl) (by kernel_rfl) rfl (fun _ _ _ _ h => h) (.agg (fArr (dig u))) (fun w' h => run_load_box rfl (hU.below h (by omega)) (by simp [go_sem, Act.put]) Try.underlying34 rfl (by rw [fArr_size]; kernel_rfl)) hq0 ?_
            refine wpH_take 4 rfl (by kernel_rfl) (by kernel_rfl) (by kernel_rfl) rfl (fun _ _ _ _ h => h) (.agg (fArr (dig v))) (fun w' h => run_load_box rfl (hV.below h (by omega)) (by simp [go_sem, Act.put]) Try.underlying34 rfl (by rw [fArr_size]; kernel_rfl)) hq0 ?_
            refine wpH_enter 2 rfl (by kernel_rfl) rfl 34 #[.agg (gArr x.at), .agg (gArr y.at)] (by simp [go_sem, Act.put]) _ (HC1.out _) ?_
            rintro e w1 ⟨rfl, hb1⟩
            have k1 := hq0.trans (hb1.mono (by simp; omega))
            refine ⟨_, rfl, k1, ?_⟩
            refine wpH_enter 5 rfl (by kernel_rfl) rfl 39 #[.agg (fArr (dig u)), .agg (fArr (dig v))] (by simp [go_sem, Act.put]) _ (HC2.out _) ?_
            rintro e w2 ⟨rfl, hb2⟩
            have hsz1 := hb1.size
            simp only [World.size_drew] at hsz1
            have k2 := k1.trans (hb2.mono (by omega))
            have hsz2 := hb2.size
            refine ⟨_, rfl, k2, ?_⟩
            have zb := (hZ.drew.after hb1).after hb2
            have wb := (hW.drew.after hb1).after hb2
            have bb := (hBc.drew.trans (hb1.mono (by simp; omega))).trans (hb2.mono (by omega))
            refine wpH_store_box (cells := gArr z.at) 6 rfl (by kernel_rfl) rfl 27 (.tmp 14) (.tmp 79) rfl zb (by simp [go_sem, Act.put]) (by simp [go_sem, Act.put]) (by rw [gArr_size, gArr_size]) (by rw [gArr_size]; kernel_rfl) (gArr_one _) ?_
            intro w3 zb3 st3
            refine ⟨st3.below _ _ (by omega) k2, ?_⟩
            refine wpH_store_box (cells := fArr (dig n)) 7 rfl (by kernel_rfl) rfl 34 (.tmp 15) (.tmp 82) rfl (st3.box wb (by omega)) (by simp [go_sem, Act.put]) (by simp [go_sem, Act.put]) (by rw [fArr_size, fArr_size]) (by rw [fArr_size]; kernel_rfl) (fArr_one _) ?_
            intro w4 wb4 st4
            have k4 := st4.below _ _ (by omega) (st3.below _ _ (by omega) k2)
            refine ⟨k4, ?_⟩
            refine wpAnyH_done (by kernel_rfl) ?_ _
            have jX := hX.below k4 (by omega)
            have jU := hU.below k4 (by omega)
            have jY := hY.below k4 (by omega)
            have jV := hV.below k4 (by omega)
            have jZ := st4.box zb3 (by omega)
            have jW := wb4
            have jB := st4.below w.heap.size w (by omega) (st3.below w.heap.size w (by omega) bb)
            have jS : O2 + 2 ≤ w4.heap.size := by rw [st4.size, st3.size]; omega
            simp only [Act.put, List.setIfInBounds_toArray, List.set_cons_zero, List.set_cons_succ]
            clear st3 st4 k1 k2 k4 zb wb zb3 wb4 bb hb1 hb2 hsz1 hsz2 hq0 hX hU hY hV hZ hW hBc hSc
            go_upto_region 17 with fail
            go_step
            refine wpList_made 4 w4.heap.size w4 (Below.refl _ _) ?_
            simp only [List.take_succ_cons, List.take_zero, List.drop_succ_cons, List.drop_zero]
            refine wpQ_load_box rfl 27 _ rfl jZ (by rfl) jZ.lt Try.underlying27 rfl (by rw [gArr_size]; kernel_rfl) ?_
            simp only [Act.put, List.setIfInBounds_toArray, List.set_cons_zero, List.set_cons_succ]
            refine wpQ_load_box rfl 34 _ rfl jW (by rfl) jW.lt Try.underlying34 rfl (by rw [fArr_size]; kernel_rfl) ?_
            simp only [Act.put, List.setIfInBounds_toArray, List.set_cons_zero, List.set_cons_succ]
            refine wpQ_call rfl 21 #[.agg (gArr z.at), .agg (fArr (dig n))] (fun w => by simp [go_sem]) _ (Nat.le_refl _) HSAME.out ?_
            simp only [Act.put, List.setIfInBounds_toArray, List.set_cons_zero, List.set_cons_succ]
            refine wpQ_run rfl (.bool false) (fun w hw => by simp [go_sem]) ?_
            simp only [Act.put, List.setIfInBounds_toArray, List.set_cons_zero, List.set_cons_succ]
            intro w5 hb5
            have lX := (jX.after hb5).drew
            have lU := (jU.after hb5).drew
            have lY := (jY.after hb5).drew
            have lV := (jV.after hb5).drew
            have lZ := (jZ.after hb5).drew
            have lN := (jW.after hb5).drew
            have lB := (jB.trans (hb5.mono (by omega))).drew
            have lS : O2 + 2 ≤ w5.drew.heap.size := by have := hb5.size; simp; omega
            clear jX jU jY jV jZ jW jB jS hb5
            go_upto_region 19 with fail
            refine wp_region_held_drew (S := fun w' => Box w' Oz 27 (gArr z.at) ∧ Box w' Ow 34 (fArr (dig n))) rfl ⟨lZ, lN⟩ (fun hq1 => ?_)
            generalize w5.drew = wl at *
            refine wpH_take 2 rfl (by kernel_rfl) (by kernel_rfl) (by kernel_rfl) rfl (fun _ _ _ _ h => h) (.agg (gArr z.at)) (fun w' h => run_load_box rfl (h.1) (by simp [go_sem]) Try.underlying27 rfl (by rw [gArr_size]; kernel_rfl)) hq1 ?_
            refine wpH_take 3 rfl (by kernel_rfl) (by kernel_rfl) (by kernel_rfl) rfl (fun _ _ _ _ h => h) (.agg (fArr (dig n))) (fun w' h => run_load_box rfl (h.2) (by simp [go_sem, Act.put]) Try.underlying34 rfl (by rw [fArr_size]; kernel_rfl)) hq1 ?_
            refine wpH_two_runs 0 1 rfl rfl (by kernel_rfl) rfl rfl (.agg (gArr y.at)) wl (run_load_box rfl (lY) (by simp [go_sem, Act.put]) Try.underlying27 rfl (by rw [gArr_size]; kernel_rfl)) ⟨lZ, lN⟩ (.agg (fArr (dig v))) wl (run_load_box rfl (lV) (by simp [go_sem, Act.put]) Try.underlying34 rfl (by rw [fArr_size]; kernel_rfl)) ⟨lZ, lN⟩ ?_ ?_
            · refine wpH_run_or_store (cells := gArr y.at) 1 4 rfl rfl (by kernel_rfl) rfl rfl (.agg (fArr (dig v))) (run_load_box rfl (lV) (by simp [go_sem, Act.put]) Try.underlying34 rfl (by rw [fArr_size]; kernel_rfl)) ⟨lZ, lN⟩ 27 (.tmp 7) (.tmp 87) rfl lX (by simp [go_sem, Act.put]) (by simp [go_sem, Act.put]) (by rw [gArr_size, gArr_size]) (by rw [gArr_size]; kernel_rfl) (gArr_one _) ?_ ?_
              · refine wpH_store_box (cells := (gArr y.at)) 4 rfl (by kernel_rfl) rfl 27 (.tmp 7) (.tmp 87) rfl (lX) (by simp [go_sem, Act.put]) (by simp [go_sem, Act.put]) (by rw [gArr_size, gArr_size]) (by rw [gArr_size]; kernel_rfl) (gArr_one _) ?_
                intro ws4 r4 st4
                refine ⟨⟨st4.box lZ (by omega), st4.box lN (by omega)⟩, ?_⟩
                refine wpH_store_box (cells := (fArr (dig v))) 5 rfl (by kernel_rfl) rfl 34 (.tmp 8) (.tmp 88) rfl (st4.box lU (by omega)) (by simp [go_sem, Act.put]) (by simp [go_sem, Act.put]) (by rw [fArr_size, fArr_size]) (by rw [fArr_size]; kernel_rfl) (fArr_one _) ?_
                intro ws5 r5 st5
                refine ⟨⟨st5.box (st4.box lZ (by omega)) (by omega), st5.box (st4.box lN (by omega)) (by omega)⟩, ?_⟩
                refine wpH_store_box (cells := (gArr z.at)) 6 rfl (by kernel_rfl) rfl 27 (.tmp 10) (.tmp 89) rfl (st5.box (st4.box lY (by omega)) (by omega)) (by simp [go_sem, Act.put]) (by simp [go_sem, Act.put]) (by rw [gArr_size, gArr_size]) (by rw [gArr_size]; kernel_rfl) (gArr_one _) ?_
                intro ws6 r6 st6
                refine ⟨⟨st6.box (st5.box (st4.box lZ (by omega)) (by omega)) (by omega), st6.box (st5.box (st4.box lN (by omega)) (by omega)) (by omega)⟩, ?_⟩
                refine wpH_store_box (cells := (fArr (dig n))) 7 rfl (by kernel_rfl) rfl 34 (.tmp 11) (.tmp 90) rfl (st6.box (st5.box (st4.box lV (by omega)) (by omega)) (by omega)) (by simp [go_sem, Act.put]) (by simp [go_sem, Act.put]) (by rw [fArr_size, fArr_size]) (by rw [fArr_size]; kernel_rfl) (fArr_one _) ?_
                intro ws7 r7 st7
                refine ⟨⟨st7.box (st6.box (st5.box (st4.box lZ (by omega)) (by omega)) (by omega)) (by omega), st7.box (st6.box (st5.box (st4.box lN (by omega)) (by omega)) (by omega)) (by omega)⟩, ?_⟩
                refine wpAnyH_done (by kernel_rfl) ?_ _
                have f1 := st7.box (st6.box (st5.box r4 (by omega)) (by omega)) (by omega)
                have f2 := st7.box (st6.box r5 (by omega)) (by omega)
                have f3 := st7.box r6 (by omega)
                have f4 := st7.below w.heap.size w (by omega) (st6.below w.heap.size w (by omega) (st5.below w.heap.size w (by omega) (st4.below w.heap.size w (by omega) lB)))
                have f5 : O2 + 2 ≤ ws7.heap.size := by rw [st7.size, st6.size, st5.size, st4.size]; omega
                simp only [Act.put, List.setIfInBounds_toArray, List.set_cons_zero, List.set_cons_succ]
                clear st4 st5 st6 st7 r4 r5 r6 lX lU lY lV lZ lN lB lS
                go_wp2_with fail
                exact ⟨⟨k + 1, by omega, by go_num, y, z, v, n, HEY.out, hez.out, f1, f2, f3, r7, f4, f5⟩, by simp [intOf]; omega⟩
              · intro ws4 r4 st4
                refine ⟨⟨st4.box lZ (by omega), st4.box lN (by omega)⟩, ?_⟩
                refine wpH_run 1 rfl (by kernel_rfl) rfl (.agg (fArr (dig v))) ws4 (run_load_box rfl (st4.box lV (by omega)) (by simp [go_sem, Act.put]) Try.underlying34 rfl (by rw [fArr_size]; kernel_rfl)) ⟨st4.box lZ (by omega), st4.box lN (by omega)⟩ ?_
                refine wpH_store_box (cells := (fArr (dig v))) 5 rfl (by kernel_rfl) rfl 34 (.tmp 8) (.tmp 88) rfl (st4.box lU (by omega)) (by simp [go_sem, Act.put]) (by simp [go_sem, Act.put]) (by rw [fArr_size, fArr_size]) (by rw [fArr_size]; kernel_rfl) (fArr_one _) ?_
                intro ws5 r5 st5
                refine ⟨⟨st5.box (st4.box lZ (by omega)) (by omega), st5.box (st4.box lN (by omega)) (by omega)⟩, ?_⟩
                refine wpH_store_box (cells := (gArr z.at)) 6 rfl (by kernel_rfl) rfl 27 (.tmp 10) (.tmp 89) rfl (st5.box (st4.box lY (by omega)) (by omega)) (by simp [go_sem, Act.put]) (by simp [go_sem, Act.put]) (by rw [gArr_size, gArr_size]) (by rw [gArr_size]; kernel_rfl) (gArr_one _) ?_
                intro ws6 r6 st6
                refine ⟨⟨st6.box (st5.box (st4.box lZ (by omega)) (by omega)) (by omega), st6.box (st5.box (st4.box lN (by omega)) (by omega)) (by omega)⟩, ?_⟩
                refine wpH_store_box (cells := (fArr (dig n))) 7 rfl (by kernel_rfl) rfl 34 (.tmp 11) (.tmp 90) rfl (st6.box (st5.box (st4.box lV (by omega)) (by omega)) (by omega)) (by simp [go_sem, Act.put]) (by simp [go_sem, Act.put]) (by rw [fArr_size, fArr_size]) (by rw [fArr_size]; kernel_rfl) (fArr_one _) ?_
                intro ws7 r7 st7
                refine ⟨⟨st7.box (st6.box (st5.box (st4.box lZ (by omega)) (by omega)) (by omega)) (by omega), st7.box (st6.box (st5.box (st4.box lN (by omega)) (by omega)) (by omega)) (by omega)⟩, ?_⟩
                refine wpAnyH_done (by kernel_rfl) ?_ _
                have f1 := st7.box (st6.box (st5.box r4 (by omega)) (by omega)) (by omega)
                have f2 := st7.box (st6.box r5 (by omega)) (by omega)
                have f3 := st7.box r6 (by omega)
                have f4 := st7.below w.heap.size w (by omega) (st6.below w.heap.size w (by omega) (st5.below w.heap.size w (by omega) (st4.below w.heap.size w (by omega) lB)))
                have f5 : O2 + 2 ≤ ws7.heap.size := by rw [st7.size, st6.size, st5.size, st4.size]; omega
                simp only [Act.put, List.setIfInBounds_toArray, List.set_cons_zero, List.set_cons_succ]
                clear st4 st5 st6 st7 r4 r5 r6 lX lU lY lV lZ lN lB lS
                go_wp2_with fail
                exact ⟨⟨k + 1, by omega, by go_num, y, z, v, n, HEY.out, hez.out, f1, f2, f3, r7, f4, f5⟩, by simp [intOf]; omega⟩
            · refine wpH_run 0 rfl (by kernel_rfl) rfl (.agg (gArr y.at)) wl (run_load_box rfl (lY) (by simp [go_sem, Act.put]) Try.underlying27 rfl (by rw [gArr_size]; kernel_rfl)) ⟨lZ, lN⟩ ?_
              refine wpH_store_box (cells := (gArr y.at)) 4 rfl (by kernel_rfl) rfl 27 (.tmp 7) (.tmp 87) rfl (lX) (by simp [go_sem, Act.put]) (by simp [go_sem, Act.put]) (by rw [gArr_size, gArr_size]) (by rw [gArr_size]; kernel_rfl) (gArr_one _) ?_
              intro ws4 r4 st4
              refine ⟨⟨st4.box lZ (by omega), st4.box lN (by omega)⟩, ?_⟩
              refine wpH_store_box (cells := (fArr (dig v))) 5 rfl (by kernel_rfl) rfl 34 (.tmp 8) (.tmp 88) rfl (st4.box lU (by omega)) (by simp [go_sem, Act.put]) (by simp [go_sem, Act.put]) (by rw [fArr_size, fArr_size]) (by rw [fArr_size]; kernel_rfl) (fArr_one _) ?_
              intro ws5 r5 st5
              refine ⟨⟨st5.box (st4.box lZ (by omega)) (by omega), st5.box (st4.box lN (by omega)) (by omega)⟩, ?_⟩
              refine wpH_store_box (cells := (gArr z.at)) 6 rfl (by kernel_rfl) rfl 27 (.tmp 10) (.tmp 89) rfl (st5.box (st4.box lY (by omega)) (by omega)) (by simp [go_sem, Act.put]) (by simp [go_sem, Act.put]) (by rw [gArr_size, gArr_size]) (by rw [gArr_size]; kernel_rfl) (gArr_one _) ?_
              intro ws6 r6 st6
              refine ⟨⟨st6.box (st5.box (st4.box lZ (by omega)) (by omega)) (by omega), st6.box (st5.box (st4.box lN (by omega)) (by omega)) (by omega)⟩, ?_⟩
              refine wpH_store_box (cells := (fArr (dig n))) 7 rfl (by kernel_rfl) rfl 34 (.tmp 11) (.tmp 90) rfl (st6.box (st5.box (st4.box lV (by omega)) (by omega)) (by omega)) (by simp [go_sem, Act.put]) (by simp [go_sem, Act.put]) (by rw [fArr_size, fArr_size]) (by rw [fArr_size]; kernel_rfl) (fArr_one _) ?_
              intro ws7 r7 st7
              refine ⟨⟨st7.box (st6.box (st5.box (st4.box lZ (by omega)) (by omega)) (by omega)) (by omega), st7.box (st6.box (st5.box (st4.box lN (by omega)) (by omega)) (by omega)) (by omega)⟩, ?_⟩
              refine wpAnyH_done (by kernel_rfl) ?_ _
              have f1 := st7.box (st6.box (st5.box r4 (by omega)) (by omega)) (by omega)
              have f2 := st7.box (st6.box r5 (by omega)) (by omega)
              have f3 := st7.box r6 (by omega)
              have f4 := st7.below w.heap.size w (by omega) (st6.below w.heap.size w (by omega) (st5.below w.heap.size w (by omega) (st4.below w.heap.size w (by omega) lB)))
              have f5 : O2 + 2 ≤ ws7.heap.size := by rw [st7.size, st6.size, st5.size, st4.size]; omega
              simp only [Act.put, List.setIfInBounds_toArray, List.set_cons_zero, List.set_cons_succ]
              clear st4 st5 st6 st7 r4 r5 r6 lX lU lY lV lZ lN lB lS
              go_wp2_with fail
              exact ⟨⟨k + 1, by omega, by go_num, y, z, v, n, HEY.out, hez.out, f1, f2, f3, r7, f4, f5⟩, by simp [intOf]; omega⟩
          · obtain ⟨z, n, HC1, HC2, hez⟩ : ∃ (z : L5) (n : Nat), Hid (∀ w : World, Calls Try.prog 35 #[.agg (gArr y.at), .agg (gArr x.at)] w fun e w' => e = .returned (.agg (gArr z.at)) ∧ Below w.heap.size w w') ∧
                Hid (∀ w : World, Calls Try.prog 38 #[.agg (fArr (dig v)), .agg (fArr (dig u))] w fun e w' => e = .returned (.agg (fArr (dig n))) ∧ Below w.heap.size w w') ∧ Hid (El z n) :=
              ⟨y.sub x, (v + (P25 - u)) % P25, Lib.hid (sub_g _ _ (lt_mono hee.out.2.1 (by omega)) (lt_mono hee.out.1.1 (by omega))), Lib.hid (fun w => refSub_any v u w hee.out.2.2.1 hee.out.1.2.1), Lib.hid (el_sub hee.out.2 hee.out.1)⟩
            have HSAME : Hid (∀ w : World, Calls Try.prog 21 #[.agg (gArr z.at), .agg (fArr (dig n))] w fun e w' => e = .returned (.bool true) ∧ Below w.heap.size w w') := by
              refine Lib.hid fun w => ?_
              have hh := hez.out
              have := sameLaw_any z n w (lt_mono hh.1 (by omega)) (by have := hh.2.1; unfold P25 at this; omega)
              rw [hh.2.2, beq_self_eq_true] at this
              exact this
            go_upto_region 10 with fail
            have hq0 : Below (O2 + 2) wc wc.drew := (Below.refl _ _).drew
            refine wp_region_held_drew (S := fun w' => Below (O2 + 2) wc w') rfl hq0 (fun _ => ?_)
            refine wpH_take 0 rfl (by kernel_rfl) (by kernel_rfl) (by kernel_rfl) rfl (fun _ _ _ _ h => h) (.agg (gArr y.at)) (fun w' h => run_load_box rfl (hY.below h (by omega)) (by simp [go_sem]) Try.underlying27 rfl (by rw [gArr_size]; kernel_rfl)) hq0 ?_
            refine wpH_take 1 rfl (by kernel_rfl) (by kernel_rfl) (by kernel_rfl) rfl (fun _ _ _ _ h => h) (.agg (gArr x.at)) (fun w' h => run_load_box rfl (hX.below h (by omega)) (by simp [go_sem, Act.put]) Try.underlying27 rfl (by rw [gArr_size]; kernel_rfl)) hq0 ?_
            refine wpH_take 3 rfl (by kernel_rfl) (by kernel_rfl) (by kernel_rfl) rfl (fun _ _ _ _ h => h) (.agg (fArr (dig v))) (fun w' h => run_load_box rfl (hV.below h (by omega)) (by simp [go_sem, Act.put]) Try.underlying34 rfl (by rw [fArr_size]; kernel_rfl)) hq0 ?_
            refine wpH_take 4 rfl (by kernel_rfl) (by kernel_rfl) (by kernel_rfl) rfl (fun _ _ _ _ h => h) (.agg (fArr (dig u))) (fun w' h => run_load_box rfl (hU.below h (by omega)) (by simp [go_sem, Act.put]) Try.underlying34 rfl (by rw [fArr_size]; kernel_rfl)) hq0 ?_
            refine wpH_enter 2 rfl (by kernel_rfl) rfl 35 #[.agg (gArr y.at), .agg (gArr x.at)] (by simp [go_sem, Act.put]) _ (HC1.out _) ?_
            rintro e w1 ⟨rfl, hb1⟩
            have k1 := hq0.trans (hb1.mono (by simp; omega))
            refine ⟨_, rfl, k1, ?_⟩
            refine wpH_enter 5 rfl (by kernel_rfl) rfl 38 #[.agg (fArr (dig v)), .agg (fArr (dig u))] (by simp [go_sem, Act.put]) _ (HC2.out _) ?_
            rintro e w2 ⟨rfl, hb2⟩
            have hsz1 := hb1.size
            simp only [World.size_drew] at hsz1
            have k2 := k1.trans (hb2.mono (by omega))
            have hsz2 := hb2.size
            refine ⟨_, rfl, k2, ?_⟩
            have zb := (hZ.drew.after hb1).after hb2
            have wb := (hW.drew.after hb1).after hb2
            have bb := (hBc.drew.trans (hb1.mono (by simp; omega))).trans (hb2.mono (by omega))
            refine wpH_store_box (cells := gArr z.at) 6 rfl (by kernel_rfl) rfl 27 (.tmp 14) (.tmp 55) rfl zb (by simp [go_sem, Act.put]) (by simp [go_sem, Act.put]) (by rw [gArr_size, gArr_size]) (by rw [gArr_size]; kernel_rfl) (gArr_one _) ?_
            intro w3 zb3 st3
            refine ⟨st3.below _ _ (by omega) k2, ?_⟩
            refine wpH_store_box (cells := fArr (dig n)) 7 rfl (by kernel_rfl) rfl 34 (.tmp 15) (.tmp 58) rfl (st3.box wb (by omega)) (by simp [go_sem, Act.put]) (by simp [go_sem, Act.put]) (by rw [fArr_size, fArr_size]) (by rw [fArr_size]; kernel_rfl) (fArr_one _) ?_
            intro w4 wb4 st4
            have k4 := st4.below _ _ (by omega) (st3.below _ _ (by omega) k2)
            refine ⟨k4, ?_⟩
            refine wpAnyH_done (by kernel_rfl) ?_ _
            have jX := hX.below k4 (by omega)
            have jU := hU.below k4 (by omega)
            have jY := hY.below k4 (by omega)
            have jV := hV.below k4 (by omega)
            have jZ := st4.box zb3 (by omega)
            have jW := wb4
            have jB := st4.below w.heap.size w (by omega) (st3.below w.heap.size w (by omega) bb)
            have jS : O2 + 2 ≤ w4.heap.size := by rw [st4.size, st3.size]; omega
            simp only [Act.put, List.setIfInBounds_toArray, List.set_cons_zero, List.set_cons_succ]
            clear st3 st4 k1 k2 k4 zb wb zb3 wb4 bb hb1 hb2 hsz1 hsz2 hq0 hX hU hY hV hZ hW hBc hSc
            go_upto_region 17 with fail
            go_step
            refine wpList_made 4 w4.heap.size w4 (Below.refl _ _) ?_
            simp only [List.take_succ_cons, List.take_zero, List.drop_succ_cons, List.drop_zero]
            refine wpQ_load_box rfl 27 _ rfl jZ (by rfl) jZ.lt Try.underlying27 rfl (by rw [gArr_size]; kernel_rfl) ?_
            simp only [Act.put, List.setIfInBounds_toArray, List.set_cons_zero, List.set_cons_succ]
            refine wpQ_load_box rfl 34 _ rfl jW (by rfl) jW.lt Try.underlying34 rfl (by rw [fArr_size]; kernel_rfl) ?_
            simp only [Act.put, List.setIfInBounds_toArray, List.set_cons_zero, List.set_cons_succ]
            refine wpQ_call rfl 21 #[.agg (gArr z.at), .agg (fArr (dig n))] (fun w => by simp [go_sem]) _ (Nat.le_refl _) HSAME.out ?_
            simp only [Act.put, List.setIfInBounds_toArray, List.set_cons_zero, List.set_cons_succ]
            refine wpQ_run rfl (.bool false) (fun w hw => by simp [go_sem]) ?_
            simp only [Act.put, List.setIfInBounds_toArray, List.set_cons_zero, List.set_cons_succ]
            intro w5 hb5
            have lX := (jX.after hb5).drew
            have lU := (jU.after hb5).drew
            have lY := (jY.after hb5).drew
            have lV := (jV.after hb5).drew
            have lZ := (jZ.after hb5).drew
            have lN := (jW.after hb5).drew
            have lB := (jB.trans (hb5.mono (by omega))).drew
            have lS : O2 + 2 ≤ w5.drew.heap.size := by have := hb5.size; simp; omega
            clear jX jU jY jV jZ jW jB jS hb5
            go_upto_region 19 with fail
            refine wp_region_held_drew (S := fun w' => Box w' Oz 27 (gArr z.at) ∧ Box w' Ow 34 (fArr (dig n))) rfl ⟨lZ, lN⟩ (fun hq1 => ?_)
            generalize w5.drew = wl at *
            refine wpH_take 2 rfl (by kernel_rfl) (by kernel_rfl) (by kernel_rfl) rfl (fun _ _ _ _ h => h) (.agg (gArr z.at)) (fun w' h => run_load_box rfl (h.1) (by simp [go_sem]) Try.underlying27 rfl (by rw [gArr_size]; kernel_rfl)) hq1 ?_
            refine wpH_take 3 rfl (by kernel_rfl) (by kernel_rfl) (by kernel_rfl) rfl (fun _ _ _ _ h => h) (.agg (fArr (dig n))) (fun w' h => run_load_box rfl (h.2) (by simp [go_sem, Act.put]) Try.underlying34 rfl (by rw [fArr_size]; kernel_rfl)) hq1 ?_
            refine wpH_two_runs 0 1 rfl rfl (by kernel_rfl) rfl rfl (.agg (gArr y.at)) wl (run_load_box rfl (lY) (by simp [go_sem, Act.put]) Try.underlying27 rfl (by rw [gArr_size]; kernel_rfl)) ⟨lZ, lN⟩ (.agg (fArr (dig v))) wl (run_load_box rfl (lV) (by simp [go_sem, Act.put]) Try.underlying34 rfl (by rw [fArr_size]; kernel_rfl)) ⟨lZ, lN⟩ ?_ ?_
            · refine wpH_run_or_store (cells := gArr y.at) 1 4 rfl rfl (by kernel_rfl) rfl rfl (.agg (fArr (dig v))) (run_load_box rfl (lV) (by simp [go_sem, Act.put]) Try.underlying34 rfl (by rw [fArr_size]; kernel_rfl)) ⟨lZ, lN⟩ 27 (.tmp 7) (.tmp 87) rfl lX (by simp [go_sem, Act.put]) (by simp [go_sem, Act.put]) (by rw [gArr_size, gArr_size]) (by rw [gArr_size]; kernel_rfl) (gArr_one _) ?_ ?_
              · refine wpH_store_box (cells := (gArr y.at)) 4 rfl (by kernel_rfl) rfl 27 (.tmp 7) (.tmp 87) rfl (lX) (by simp [go_sem, Act.put]) (by simp [go_sem, Act.put]) (by rw [gArr_size, gArr_size]) (by rw [gArr_size]; kernel_rfl) (gArr_one _) ?_
                intro ws4 r4 st4
                refine ⟨⟨st4.box lZ (by omega), st4.box lN (by omega)⟩, ?_⟩
                refine wpH_store_box (cells := (fArr (dig v))) 5 rfl (by kernel_rfl) rfl 34 (.tmp 8) (.tmp 88) rfl (st4.box lU (by omega)) (by simp [go_sem, Act.put]) (by simp [go_sem, Act.put]) (by rw [fArr_size, fArr_size]) (by rw [fArr_size]; kernel_rfl) (fArr_one _) ?_
                intro ws5 r5 st5
                refine ⟨⟨st5.box (st4.box lZ (by omega)) (by omega), st5.box (st4.box lN (by omega)) (by omega)⟩, ?_⟩
                refine wpH_store_box (cells := (gArr z.at)) 6 rfl (by kernel_rfl) rfl 27 (.tmp 10) (.tmp 89) rfl (st5.box (st4.box lY (by omega)) (by omega)) (by simp [go_sem, Act.put]) (by simp [go_sem, Act.put]) (by rw [gArr_size, gArr_size]) (by rw [gArr_size]; kernel_rfl) (gArr_one _) ?_
                intro ws6 r6 st6
                refine ⟨⟨st6.box (st5.box (st4.box lZ (by omega)) (by omega)) (by omega), st6.box (st5.box (st4.box lN (by omega)) (by omega)) (by omega)⟩, ?_⟩
                refine wpH_store_box (cells := (fArr (dig n))) 7 rfl (by kernel_rfl) rfl 34 (.tmp 11) (.tmp 90) rfl (st6.box (st5.box (st4.box lV (by omega)) (by omega)) (by omega)) (by simp [go_sem, Act.put]) (by simp [go_sem, Act.put]) (by rw [fArr_size, fArr_size]) (by rw [fArr_size]; kernel_rfl) (fArr_one _) ?_
                intro ws7 r7 st7
                refine ⟨⟨st7.box (st6.box (st5.box (st4.box lZ (by omega)) (by omega)) (by omega)) (by omega), st7.box (st6.box (st5.box (st4.box lN (by omega)) (by omega)) (by omega)) (by omega)⟩, ?_⟩
                refine wpAnyH_done (by kernel_rfl) ?_ _
                have f1 := st7.box (st6.box (st5.box r4 (by omega)) (by omega)) (by omega)
                have f2 := st7.box (st6.box r5 (by omega)) (by omega)
                have f3 := st7.box r6 (by omega)
                have f4 := st7.below w.heap.size w (by omega) (st6.below w.heap.size w (by omega) (st5.below w.heap.size w (by omega) (st4.below w.heap.size w (by omega) lB)))
                have f5 : O2 + 2 ≤ ws7.heap.size := by rw [st7.size, st6.size, st5.size, st4.size]; omega
                simp only [Act.put, List.setIfInBounds_toArray, List.set_cons_zero, List.set_cons_succ]
                clear st4 st5 st6 st7 r4 r5 r6 lX lU lY lV lZ lN lB lS
                go_wp2_with fail
                exact ⟨⟨k + 1, by omega, by go_num, y, z, v, n, HEY.out, hez.out, f1, f2, f3, r7, f4, f5⟩, by simp [intOf]; omega⟩
              · intro ws4 r4 st4
                refine ⟨⟨st4.box lZ (by omega), st4.box lN (by omega)⟩, ?_⟩
                refine wpH_run 1 rfl (by kernel_rfl) rfl (.agg (fArr (dig v))) ws4 (run_load_box rfl (st4.box lV (by omega)) (by simp [go_sem, Act.put]) Try.underlying34 rfl (by rw [fArr_size]; kernel_rfl)) ⟨st4.box lZ (by omega), st4.box lN (by omega)⟩ ?_
                refine wpH_store_box (cells := (fArr (dig v))) 5 rfl (by kernel_rfl) rfl 34 (.tmp 8) (.tmp 88) rfl (st4.box lU (by omega)) (by simp [go_sem, Act.put]) (by simp [go_sem, Act.put]) (by rw [fArr_size, fArr_size]) (by rw [fArr_size]; kernel_rfl) (fArr_one _) ?_
                intro ws5 r5 st5
                refine ⟨⟨st5.box (st4.box lZ (by omega)) (by omega), st5.box (st4.box lN (by omega)) (by omega)⟩, ?_⟩
                refine wpH_store_box (cells := (gArr z.at)) 6 rfl (by kernel_rfl) rfl 27 (.tmp 10) (.tmp 89) rfl (st5.box (st4.box lY (by omega)) (by omega)) (by simp [go_sem, Act.put]) (by simp [go_sem, Act.put]) (by rw [gArr_size, gArr_size]) (by rw [gArr_size]; kernel_rfl) (gArr_one _) ?_
                intro ws6 r6 st6
                refine ⟨⟨st6.box (st5.box (st4.box lZ (by omega)) (by omega)) (by omega), st6.box (st5.box (st4.box lN (by omega)) (by omega)) (by omega)⟩, ?_⟩
                refine wpH_store_box (cells := (fArr (dig n))) 7 rfl (by kernel_rfl) rfl 34 (.tmp 11) (.tmp 90) rfl (st6.box (st5.box (st4.box lV (by omega)) (by omega)) (by omega)) (by simp [go_sem, Act.put]) (by simp [go_sem, Act.put]) (by rw [fArr_size, fArr_size]) (by rw [fArr_size]; kernel_rfl) (fArr_one _) ?_
                intro ws7 r7 st7
                refine ⟨⟨st7.box (st6.box (st5.box (st4.box lZ (by omega)) (by omega)) (by omega)) (by omega), st7.box (st6.box (st5.box (st4.box lN (by omega)) (by omega)) (by omega)) (by omega)⟩, ?_⟩
                refine wpAnyH_done (by kernel_rfl) ?_ _
                have f1 := st7.box (st6.box (st5.box r4 (by omega)) (by omega)) (by omega)
                have f2 := st7.box (st6.box r5 (by omega)) (by omega)
                have f3 := st7.box r6 (by omega)
                have f4 := st7.below w.heap.size w (by omega) (st6.below w.heap.size w (by omega) (st5.below w.heap.size w (by omega) (st4.below w.heap.size w (by omega) lB)))
                have f5 : O2 + 2 ≤ ws7.heap.size := by rw [st7.size, st6.size, st5.size, st4.size]; omega
                simp only [Act.put, List.setIfInBounds_toArray, List.set_cons_zero, List.set_cons_succ]
                clear st4 st5 st6 st7 r4 r5 r6 lX lU lY lV lZ lN lB lS
                go_wp2_with fail
                exact ⟨⟨k + 1, by omega, by go_num, y, z, v, n, HEY.out, hez.out, f1, f2, f3, r7, f4, f5⟩, by simp [intOf]; omega⟩
            · refine wpH_run 0 rfl (by kernel_rfl) rfl (.agg (gArr y.at)) wl (run_load_box rfl (lY) (by simp [go_sem, Act.put]) Try.underlying27 rfl (by rw [gArr_size]; kernel_rfl)) ⟨lZ, lN⟩ ?_
              refine wpH_store_box (cells := (gArr y.at)) 4 rfl (by kernel_rfl) rfl 27 (.tmp 7) (.tmp 87) rfl (lX) (by simp [go_sem, Act.put]) (by simp [go_sem, Act.put]) (by rw [gArr_size, gArr_size]) (by rw [gArr_size]; kernel_rfl) (gArr_one _) ?_
              intro ws4 r4 st4
              refine ⟨⟨st4.box lZ (by omega), st4.box lN (by omega)⟩, ?_⟩
              refine wpH_store_box (cells := (fArr (dig v))) 5 rfl (by kernel_rfl) rfl 34 (.tmp 8) (.tmp 88) rfl (st4.box lU (by omega)) (by simp [go_sem, Act.put]) (by simp [go_sem, Act.put]) (by rw [fArr_size, fArr_size]) (by rw [fArr_size]; kernel_rfl) (fArr_one _) ?_
              intro ws5 r5 st5
              refine ⟨⟨st5.box (st4.box lZ (by omega)) (by omega), st5.box (st4.box lN (by omega)) (by omega)⟩, ?_⟩
              refine wpH_store_box (cells := (gArr z.at)) 6 rfl (by kernel_rfl) rfl 27 (.tmp 10) (.tmp 89) rfl (st5.box (st4.box lY (by omega)) (by omega)) (by simp [go_sem, Act.put]) (by simp [go_sem, Act.put]) (by rw [gArr_size, gArr_size]) (by rw [gArr_size]; kernel_rfl) (gArr_one _) ?_
              intro ws6 r6 st6
              refine ⟨⟨st6.box (st5.box (st4.box lZ (by omega)) (by omega)) (by omega), st6.box (st5.box (st4.box lN (by omega)) (by omega)) (by omega)⟩, ?_⟩
              refine wpH_store_box (cells := (fArr (dig n))) 7 rfl (by kernel_rfl) rfl 34 (.tmp 11) (.tmp 90) rfl (st6.box (st5.box (st4.box lV (by omega)) (by omega)) (by omega)) (by simp [go_sem, Act.put]) (by simp [go_sem, Act.put]) (by rw [fArr_size, fArr_size]) (by rw [fArr_size]; kernel_rfl) (fArr_one _) ?_
              intro ws7 r7 st7
              refine ⟨⟨st7.box (st6.box (st5.box (st4.box lZ (by omega)) (by omega)) (by omega)) (by omega), st7.box (st6.box (st5.box (st4.box lN (by omega)) (by omega)) (by omega)) (by omega)⟩, ?_⟩
              refine wpAnyH_done (by kernel_rfl) ?_ _
              have f1 := st7.box (st6.box (st5.box r4 (by omega)) (by omega)) (by omega)
              have f2 := st7.box (st6.box r5 (by omega)) (by omega)
              have f3 := st7.box r6 (by omega)
              have f4 := st7.below w.heap.size w (by omega) (st6.below w.heap.size w (by omega) (st5.below w.heap.size w (by omega) (st4.below w.heap.size w (by omega) lB)))
              have f5 : O2 + 2 ≤ ws7.heap.size := by rw [st7.size, st6.size, st5.size, st4.size]; omega
              simp only [Act.put, List.setIfInBounds_toArray, List.set_cons_zero, List.set_cons_succ]
              clear st4 st5 st6 st7 r4 r5 r6 lX lU lY lV lZ lN lB lS
              go_wp2_with fail
              exact ⟨⟨k + 1, by omega, by go_num, y, z, v, n, HEY.out, hez.out, f1, f2, f3, r7, f4, f5⟩, by simp [intOf]; omega⟩
      · obtain rfl : k = len2 := by omega
        have hlt' : ¬ (k : Int) < k := by omega
        have b : Bool := (u == v)
        have HS1 := Lib.hid (same_g x x true (lt_mono hex.1 (by omega)) (lt_mono hex.1 (by omega)) (by simp))
        have HS2 := Lib.hid (same_g x y (u == v) (lt_mono hex.1 (by omega)) (lt_mono hey.1 (by omega)) (by rw [hex.2.2, hey.2.2]))
        have HEQ := Lib.hid (fun w : World => eql_fArr u v (by have := hex.2.1; unfold P25 at this; omega) (by have := hey.2.1; unfold P25 at this; omega) w)
        have HAW := Lib.hid awakeF_any
        obtain ⟨bb, hbb⟩ : ∃ bb, bb = (u == v) := ⟨_, rfl⟩
        rw [← hbb] at HS2 HEQ
        clear hbb hex hey b
        go_upto_region 20 with fail
        refine wp_region_made wa.heap.size wa rfl (by kernel_rfl) (Below.refl _ _) ?_
        refine wpQ_load_box rfl 27 _ rfl hX (by rfl) hX.lt Try.underlying27 rfl (by rw [gArr_size]; kernel_rfl) ?_
        simp only [Act.put, List.setIfInBounds_toArray, List.set_cons_zero, List.set_cons_succ]
        refine wpQ_load_box rfl 27 _ rfl hX (by rfl) hX.lt Try.underlying27 rfl (by rw [gArr_size]; kernel_rfl) ?_
        simp only [Act.put, List.setIfInBounds_toArray, List.set_cons_zero, List.set_cons_succ]
        refine wpQ_call rfl 23 #[.agg (gArr x.at), .agg (gArr x.at)] (fun w => by simp [go_sem]) _ (Nat.le_refl _) HS1.out ?_
        simp only [Act.put, List.setIfInBounds_toArray, List.set_cons_zero, List.set_cons_succ]
        refine wpQ_run rfl (.bool true) (fun w hw => by simp [go_sem]) ?_
        simp only [Act.put, List.setIfInBounds_toArray, List.set_cons_zero, List.set_cons_succ]
        refine wpQ_load_box rfl 27 _ rfl hX (by rfl) hX.lt Try.underlying27 rfl (by rw [gArr_size]; kernel_rfl) ?_
        simp only [Act.put, List.setIfInBounds_toArray, List.set_cons_zero, List.set_cons_succ]
        refine wpQ_load_box rfl 27 _ rfl hY (by rfl) hY.lt Try.underlying27 rfl (by rw [gArr_size]; kernel_rfl) ?_
        simp only [Act.put, List.setIfInBounds_toArray, List.set_cons_zero, List.set_cons_succ]
        refine wpQ_call rfl 23 #[.agg (gArr x.at), .agg (gArr y.at)] (fun w => by simp [go_sem]) _ (Nat.le_refl _) HS2.out ?_
        simp only [Act.put, List.setIfInBounds_toArray, List.set_cons_zero, List.set_cons_succ]
        refine wpQ_load_box rfl 34 _ rfl hU (by rfl) hU.lt Try.underlying34 rfl (by rw [fArr_size]; kernel_rfl) ?_
        simp only [Act.put, List.setIfInBounds_toArray, List.set_cons_zero, List.set_cons_succ]
        refine wpQ_load_box rfl 34 _ rfl hV (by rfl) hV.lt Try.underlying34 rfl (by rw [fArr_size]; kernel_rfl) ?_
        simp only [Act.put, List.setIfInBounds_toArray, List.set_cons_zero, List.set_cons_succ]
        refine wpQ_run rfl (.bool bb) (fun w hw => by simp [go_sem, HEQ.out]) ?_
        simp only [Act.put, List.setIfInBounds_toArray, List.set_cons_zero, List.set_cons_succ]
        refine wpQ_run rfl (.bool true) (fun w hw => by simp [go_sem]) ?_
        simp only [Act.put, List.setIfInBounds_toArray, List.set_cons_zero, List.set_cons_succ]
        refine wpQ_run rfl (.bool true) (fun w hw => by simp [go_sem]) ?_
        simp only [Act.put, List.setIfInBounds_toArray, List.set_cons_zero, List.set_cons_succ]
        refine wpQ_run rfl (.bool true) (fun w hw => by simp [go_sem]) ?_
        simp only [Act.put, List.setIfInBounds_toArray, List.set_cons_zero, List.set_cons_succ]
        refine wpQ_call rfl 18 #[] (fun w => by simp [go_sem]) _ (Nat.le_refl _) HAW.out ?_
        simp only [Act.put, List.setIfInBounds_toArray, List.set_cons_zero, List.set_cons_succ]
        refine wpQ_run rfl (.bool true) (fun w hw => by simp [go_sem]) ?_
        simp only [Act.put, List.setIfInBounds_toArray, List.set_cons_zero, List.set_cons_succ]
        refine wpQ_run rfl (.bool true) (fun w hw => by simp [go_sem]) ?_
        simp only [Act.put, List.setIfInBounds_toArray, List.set_cons_zero, List.set_cons_succ]
        intro w8 hb8
        have hB8 := hB.trans (hb8.mono hB.size)
        clear hb8 hX hU hY hV hB
        go_wp2_with fail
        go_ret
        exact ⟨rfl, hB8⟩
end Go.Proofs.Ytddgkoheihlbdaa

/- field: Add: what it computes. -/
import Derived.Test.YtddgkoheihlbdaaFld7
namespace Go.Proofs.Ytddgkoheihlbdaa
open Go.RowKit

set_option maxRecDepth 100000 in
set_option maxHeartbeats 1000000 in
theorem add_any (x y : L5) (w : World) (hx : x.lt 4611686018427387904) (hy : y.lt 4611686018427387904) :
    Calls Try.prog 33 #[x.v, y.v] w fun e w' => e = .returned (x.add y).v ∧ Below w.heap.size w w' := by
  have HX := Lib.hid (at_lt hx)
  have HY := Lib.hid (at_lt hy)
  have HS := Lib.hid (fun w : World => carry_any (L5.fn (addF x y)) w (addF_bd hx hy))
  obtain ⟨R, hR⟩ : ∃ R, R = gArr (x.add y).at := ⟨_, rfl⟩
  have hV : Value.agg R = (x.add y).v := by rw [hR]; rfl
  have HRS := Lib.hid (show R.size = 5 by rw [hR]; exact gArr_size _)
  have HR1 := Lib.hid (show R.all (·.oneCell') = true by rw [hR]; exact gArr_one _)
  rw [← hV]
  change Hid (∀ w : World, Calls _ _ #[(L5.fn (addF x y)).v] w fun e w' => e = .returned (x.add y).v ∧ Below w.heap.size w w') at HS
  rw [← hV, ← mix_fn (addF x y) x.at, ← gArr_fn] at HS
  clear hV hx hy hR
  have hyv : y.v = .agg (gArr y.at) := rfl
  have hxv : x.v = .agg (gArr x.at) := rfl
  rw [hxv, hyv]
  clear hyv hxv
  obtain ⟨X, hX⟩ : ∃ X, X = gArr x.at := ⟨_, rfl⟩
  obtain ⟨Y, hY⟩ : ∃ Y, Y = gArr y.at := ⟨_, rfl⟩
  obtain ⟨N, hN⟩ : ∃ N, N = gArr (fun _ => 0) := ⟨_, rfl⟩
  rw [← hX, ← hY]
  have HXE := Lib.hid hX
  have HYE := Lib.hid hY
  have HXS := Lib.hid (show X.size = 5 by rw [hX]; exact gArr_size _)
  have HYS := Lib.hid (show Y.size = 5 by rw [hY]; exact gArr_size _)
  clear hX hY
  go_enter Try.func33, Try.ntmps33
  go_upto_region 1 with fail
  have g0 : Box (((w.alloc (.cells X 27)).alloc (.cells Y 27)).alloc (.cells #[.int .u64 0, .int .u64 0, .int .u64 0, .int .u64 0, .int .u64 0] 27)) w.heap.size 27 X := ((Box.new _ _ _).alloc _).alloc _
  have g1 : Box (((w.alloc (.cells X 27)).alloc (.cells Y 27)).alloc (.cells #[.int .u64 0, .int .u64 0, .int .u64 0, .int .u64 0, .int .u64 0] 27)) (w.heap.size + 1) 27 Y := by
    have := (Box.new (w.alloc (.cells X 27)) 27 Y).alloc (.cells #[.int .u64 0, .int .u64 0, .int .u64 0, .int .u64 0, .int .u64 0] 27)
    simpa using this
  have g2 : Box (((w.alloc (.cells X 27)).alloc (.cells Y 27)).alloc (.cells #[.int .u64 0, .int .u64 0, .int .u64 0, .int .u64 0, .int .u64 0] 27)) (w.heap.size + 2) 27 N := by
    have := Box.new ((w.alloc (.cells X 27)).alloc (.cells Y 27)) 27 #[.int .u64 0, .int .u64 0, .int .u64 0, .int .u64 0, .int .u64 0]
    rw [hN]
    simp only [World.size_alloc] at this
    exact this
  have g3 : Below w.heap.size w (((w.alloc (.cells X 27)).alloc (.cells Y 27)).alloc (.cells #[.int .u64 0, .int .u64 0, .int .u64 0, .int .u64 0, .int .u64 0] 27)) := (((Below.refl w.heap.size w).alloc (Nat.le_refl _) _).alloc (by simp) _).alloc (by simp; omega) _
  have g4 : w.heap.size + 3 ≤ (((w.alloc (.cells X 27)).alloc (.cells Y 27)).alloc (.cells #[.int .u64 0, .int .u64 0, .int .u64 0, .int .u64 0, .int .u64 0] 27)).heap.size := by simp
  have HNS := Lib.hid (show N.size = 5 by rw [hN]; exact gArr_size _)
  clear hN
  generalize (((w.alloc (.cells X 27)).alloc (.cells Y 27)).alloc (.cells #[.int .u64 0, .int .u64 0, .int .u64 0, .int .u64 0, .int .u64 0] 27)) = W at *
  have hX2 := g0
  have hY2 := g1
  have hN2 := g2
  have hB2 := g3
  have hS2 := g4
  clear g0 g1 g2 g3 g4
  rw [HXE.out] at hX2
  go_wp2_with fail
  go_loopw [6] (fun i wr => ∃ k : Nat, k ≤ 5 ∧ i = .int .i64 k ∧ Box wr w.heap.size 27 (gArr (mix (addF x y) x.at k)) ∧ Box wr (w.heap.size + 1) 27 Y ∧ Box wr (w.heap.size + 2) 27 N ∧ Below w.heap.size w wr ∧ w.heap.size + 3 ≤ wr.heap.size) (fun i _ => 5 - (intOf i).toNat)
  case atStart => exact ⟨0, by omega, rfl, by rw [mix_zero]; exact hX2, hY2, hN2, hB2, hS2⟩
  case round =>
    obtain ⟨wa, rfl⟩ : ∃ wa : World, wa = wr := ⟨_, rfl⟩
    obtain ⟨k, hk, rfl, hX, hZ, hN, hB, hS⟩ := hrel
    clear hX2 hY2 hN2 hB2 hS2
    by_cases hlt : k < 5
    · have gx := hX.cell k (gArr_get _ k hlt)
      rw [mix_here] at gx
      have fx := hX.frozen k
      have hZ' := hZ
      rw [HYE.out] at hZ'
      have gz := hZ'.cell k (gArr_get _ k hlt)
      have bx := HX.out k hlt
      have bz := HY.out k hlt
      have hs := mix_step (addF x y) x.at k
      have hd : addF x y k = x.at k + y.at k := rfl
      obtain ⟨u, hu⟩ : ∃ u, u = x.at k := ⟨_, rfl⟩
      obtain ⟨v, hv⟩ : ∃ v, v = y.at k := ⟨_, rfl⟩
      obtain ⟨r, hr⟩ : ∃ r, r = addF x y k := ⟨_, rfl⟩
      rw [← hu] at gx bx hd
      rw [← hv] at gz bz hd
      rw [← hr] at hd hs
      have HS' := Lib.hid hs
      have b5 : (0 : Int) ≤ (k : Int) := by omega
      have b6 : (k : Int) < 5 := by omega
      have b7 : IntKind.i64.wrap (k : Int) = (k : Int) := by rw [IntKind.wrap_i64]; omega
      have m2 : (u : Int) + (v : Int) = (r : Int) := by omega
      clear hs hu hv hr hZ' hd
      go_upto_region 4 with fail
      go_still_tail 11, (by kernel_rfl)
      change wpList _ _ _ _ _ wa.drew
      go_wp2_with fail
      refine ⟨⟨k + 1, by omega, by go_num, ?_, hZ.far _ _ (by simp), hN.far _ _ (by simp), (hB.setCell (by simp) _).drew, by simpa using hS⟩, by simp [intOf]; omega⟩
      have h1 := hX.set k (.int .u64 (r : Nat))
      rw [gArr_set, HS'.out] at h1
      exact h1
    · obtain rfl : k = 5 := by omega
      obtain ⟨G, hG⟩ : ∃ G, G = gArr (mix (addF x y) x.at 5) := ⟨_, rfl⟩
      rw [← hG] at hX HS
      have HGS := Lib.hid (show G.size = 5 by rw [hG]; exact gArr_size _)
      clear hG
      go_upto_region 6 with fail
      go_step
      refine wpList_load_box rfl 27 _ rfl hX (by rfl) Try.underlying27 rfl (by rw [HGS.out]; kernel_rfl) ?_
      refine wpList_enter rfl 69 #[.agg G] (by simp [go_sem, Act.put]) _ _ (HS.out wa) ?_
      intro w3 hb3
      refine wpList_store_box rfl 27 _ _ rfl (hN.after hb3) (by rfl) (by rfl) (by rw [HNS.out, HRS.out]) (by rw [HRS.out]; kernel_rfl) HR1.out ?_
      intro w4 hR4 hst
      have hB4 := hst.below w.heap.size w (by omega) (hB.trans (hb3.mono (by omega)))
      simp only [Act.put, List.setIfInBounds_toArray, List.set_cons_zero, List.set_cons_succ]
      clear hst hb3 hX hZ hN hB hS
      go_wp2_with fail
      exact bodyPost_ret (v := .agg R) (box_result rfl _ _ (by rfl) hR4 Try.underlying27 rfl (by rw [HRS.out]; kernel_rfl)) rfl ⟨rfl, hB4⟩
end Go.Proofs.Ytddgkoheihlbdaa

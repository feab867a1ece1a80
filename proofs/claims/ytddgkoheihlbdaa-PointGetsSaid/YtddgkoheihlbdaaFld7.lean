/- field: Sub, Add: what they compute. -/
import Derived.Test.YtddgkoheihlbdaaFld6
import Derived.Test.YtddgkoheihlbdaaFldRef1
import Derived.StillTailTactics
import Derived.Deep.Cut
namespace Go.Proofs.Ytddgkoheihlbdaa
open Go.RowKit

/-- the cells of five limbs -/
def gArr (f : Nat → Nat) : Array Value := ((List.range 5).map fun j => Value.int .u64 (f j : Nat)).toArray
theorem gArr_get (f : Nat → Nat) (j : Nat) (h : j < 5) : (gArr f)[j]? = some (.int .u64 (f j : Nat)) := by
  simp [gArr, List.getElem?_map, List.getElem?_range h]
theorem gArr_size (f : Nat → Nat) : (gArr f).size = 5 := by simp [gArr]
theorem gArr_set (f : Nat → Nat) (i v : Nat) : (gArr f).setIfInBounds i (.int .u64 (v : Nat)) = gArr (upd f i v) := by
  apply Array.ext
  · simp [gArr]
  · intro j h1 h2
    simp only [gArr, List.size_toArray, List.length_map, List.length_range] at h2
    rw [Array.getElem_setIfInBounds (by simpa [gArr] using h2)]
    by_cases hj : i = j
    · subst hj; simp [gArr, upd]
    · rw [if_neg hj]; simp [gArr, upd, show ¬ j = i from fun e => hj e.symm]
theorem gArr_one (f : Nat → Nat) : (gArr f).all (·.oneCell') = true := all_oneCell_toArray (fun v hv => by simp at hv; obtain ⟨j, _, rfl⟩ := hv; rfl)
theorem gArr_at (x : L5) : gArr x.at = #[.int .u64 x.a, .int .u64 x.b, .int .u64 x.c, .int .u64 x.d, .int .u64 x.e] := rfl
def L5.fn (f : Nat → Nat) : L5 := ⟨f 0, f 1, f 2, f 3, f 4⟩
theorem gArr_fn (f : Nat → Nat) : Value.agg (gArr f) = (L5.fn f).v := rfl
theorem at_lt {x : L5} {m : Nat} (h : x.lt m) : ∀ j, j < 5 → x.at j < m := fun j hj => by
  obtain ⟨h1, h2, h3, h4, h5⟩ := h
  match j, hj with
  | 0, _ => exact h1
  | 1, _ => exact h2
  | 2, _ => exact h3
  | 3, _ => exact h4
  | 4, _ => exact h5

/-- f up to limb k, x from there on -/
def mix (f g : Nat → Nat) (k j : Nat) : Nat := if j < k then f j else g j
theorem mix_zero (f g : Nat → Nat) : mix f g 0 = g := by funext j; simp [mix]
theorem mix_here (f g : Nat → Nat) (k : Nat) : mix f g k k = g k := by simp [mix]
theorem mix_step (f g : Nat → Nat) (k : Nat) : upd (mix f g k) k (f k) = mix f g (k + 1) := by
  funext j; unfold upd mix
  by_cases h : j = k
  · subst h; simp
  · by_cases h2 : j < k
    · rw [if_neg h, if_pos h2, if_pos (by omega)]
    · rw [if_neg h, if_neg h2, if_neg (by omega)]
theorem mix_fn (f g : Nat → Nat) : L5.fn (mix f g 5) = L5.fn f := rfl

/-- limb k of four times p -/
def p4 (k : Nat) : Nat := if k = 0 then 9007199254740916 else 9007199254740988
def subF (x y : L5) (k : Nat) : Nat := x.at k + (p4 k - y.at k)
def L5.sub (x y : L5) : L5 := (L5.fn (subF x y.cry)).cry
def addF (x y : L5) (k : Nat) : Nat := x.at k + y.at k
def L5.add (x y : L5) : L5 := (L5.fn (addF x y)).cry

/-- the bound of what is carried -/
def L5.tight (x : L5) : Prop := x.lt 2251799813763073
theorem cry_tight (x : L5) (h : x.lt 9223372036854775808) : x.cry.tight := by
  obtain ⟨h1, h2, h3, h4, h5⟩ := cry_lt x h
  exact ⟨h1, by omega, by omega, by omega, by omega⟩
theorem tight_lt {x : L5} (h : x.tight) : x.lt 9223372036854775808 := by
  obtain ⟨h1, h2, h3, h4, h5⟩ := h
  exact ⟨by omega, by omega, by omega, by omega, by omega⟩
theorem subF_bd {x y : L5} (hx : x.lt 4611686018427387904) : (L5.fn (subF x y)).lt 9223372036854775808 := by
  obtain ⟨h1, h2, h3, h4, h5⟩ := hx
  refine ⟨?_, ?_, ?_, ?_, ?_⟩ <;> (simp only [L5.fn, subF, p4, L5.at]; simp; omega)
theorem sub_tight {x y : L5} (hx : x.lt 4611686018427387904) : (x.sub y).tight := cry_tight _ (subF_bd hx)
theorem sub_mod {x y : L5} (hy : y.lt 9223372036854775808) : ((x.sub y).val + y.val) % P25 = x.val % P25 := by
  have e1 := cry_mod (L5.fn (subF x y.cry))
  have e2 := cry_mod y
  obtain ⟨h1, h2, h3, h4, h5⟩ := cry_tight y hy
  have e3 : (L5.fn (subF x y.cry)).val + y.cry.val = x.val + P25 * 4 := by
    generalize y.cry = z at *
    simp only [L5.fn, subF, p4, L5.at, L5.val, P25]
    simp
    omega
  have : ((x.sub y).val + y.val) % P25 = ((L5.fn (subF x y.cry)).val + y.cry.val) % P25 := by
    rw [Nat.add_mod, Nat.add_mod (L5.fn (subF x y.cry)).val, e2, ← e1]; rfl
  rw [this, e3, Nat.add_mul_mod_self_left]
theorem addF_bd {x y : L5} (hx : x.lt 4611686018427387904) (hy : y.lt 4611686018427387904) : (L5.fn (addF x y)).lt 9223372036854775808 := by
  obtain ⟨h1, h2, h3, h4, h5⟩ := hx
  obtain ⟨g1, g2, g3, g4, g5⟩ := hy
  refine ⟨?_, ?_, ?_, ?_, ?_⟩ <;> (simp only [L5.fn, addF, L5.at]; omega)
theorem add_tight {x y : L5} (hx : x.lt 4611686018427387904) (hy : y.lt 4611686018427387904) : (x.add y).tight := cry_tight _ (addF_bd hx hy)
theorem add_mod (x y : L5) : (x.add y).val % P25 = (x.val + y.val) % P25 := by
  have e1 := cry_mod (L5.fn (addF x y))
  have e3 : (L5.fn (addF x y)).val = x.val + y.val := by
    simp only [L5.fn, addF, L5.at, L5.val]
    omega
  rw [← e3, ← e1]; rfl

set_option maxRecDepth 100000 in
set_option maxHeartbeats 1000000 in
theorem sub_any (x y : L5) (w : World) (hx : x.lt 4611686018427387904) (hy : y.lt 9223372036854775808) :
    Calls Try.prog 35 #[x.v, y.v] w fun e w' => e = .returned (x.sub y).v ∧ Below w.heap.size w w' := by
  have HX := Lib.hid (at_lt hx)
  have HY := Lib.hid (at_lt (cry_tight y hy))
  have HC := Lib.hid (fun w : World => carry_any y w hy)
  have HS := Lib.hid (fun w : World => carry_any (L5.fn (subF x y.cry)) w (subF_bd hx))
  obtain ⟨R, hR⟩ : ∃ R, R = gArr (x.sub y).at := ⟨_, rfl⟩
  have hV : Value.agg R = (x.sub y).v := by rw [hR]; rfl
  have HRS := Lib.hid (show R.size = 5 by rw [hR]; exact gArr_size _)
  have HR1 := Lib.hid (show R.all (·.oneCell') = true by rw [hR]; exact gArr_one _)
  rw [← hV]
  change Hid (∀ w : World, Calls _ _ #[(L5.fn (subF x y.cry)).v] w fun e w' => e = .returned (x.sub y).v ∧ Below w.heap.size w w') at HS
  rw [← hV, ← mix_fn (subF x y.cry) x.at, ← gArr_fn] at HS
  clear hV hx hy hR
  have hyv : y.v = .agg (gArr y.at) := rfl
  have hxv : x.v = .agg (gArr x.at) := rfl
  have hcv : y.cry.v = .agg (gArr y.cry.at) := rfl
  rw [hyv, hcv] at HC
  rw [hxv, hyv]
  clear hyv hxv hcv
  generalize y.cry = z at *
  obtain ⟨X, hX⟩ : ∃ X, X = gArr x.at := ⟨_, rfl⟩
  obtain ⟨Y, hY⟩ : ∃ Y, Y = gArr y.at := ⟨_, rfl⟩
  obtain ⟨Z, hZ⟩ : ∃ Z, Z = gArr z.at := ⟨_, rfl⟩
  obtain ⟨N, hN⟩ : ∃ N, N = gArr (fun _ => 0) := ⟨_, rfl⟩
  rw [← hX, ← hY]
  rw [← hY, ← hZ] at HC
  have HXE := Lib.hid hX
  have HZE := Lib.hid hZ
  have HXS := Lib.hid (show X.size = 5 by rw [hX]; exact gArr_size _)
  have HYS := Lib.hid (show Y.size = 5 by rw [hY]; exact gArr_size _)
  have HZS := Lib.hid (show Z.size = 5 by rw [hZ]; exact gArr_size _)
  have HZ1 := Lib.hid (show Z.all (·.oneCell') = true by rw [hZ]; exact gArr_one _)
  clear hX hY hZ
  go_enter Try.func35, Try.ntmps35
  go_upto_region 1 with fail
  have g0 : Box (((w.alloc (.cells X 27)).alloc (.cells Y 27)).alloc (.cells #[.int .u64 0, .int .u64 0, .int .u64 0, .int .u64 0, .int .u64 0] 27)) w.heap.size 27 X := ((Box.new _ _ _).alloc _).alloc _
  have g1 : Box (((w.alloc (.cells X 27)).alloc (.cells Y 27)).alloc (.cells #[.int .u64 0, .int .u64 0, .int .u64 0, .int .u64 0, .int .u64 0] 27)) (w.heap.size + 1) 27 Y := by
    have := (Box.new (w.alloc (.cells X 27)) 27 Y).alloc (.cells #[.int .u64 0, .int .u64 0, .int .u64 0, .int .u64 0, .int .u64 0] 27)
    simpa using this
  have g2 : Box (((w.alloc (.cells X 27)).alloc (.cells Y 27)).alloc (.cells #[.int .u64 0, .int .u64 0, .int .u64 0, .int .u64 0, .int .u64 0] 27)) (w.heap.size + 2) 27 N := by
    have := Box.new ((w.alloc (.cells X 27)).alloc (.cells Y 27)) 27 #[.int .u64 0, .int .u64 0, .int .u64 0, .int .u64 0, .int .u64 0]
    rw [hN]
    simp only [World.size_alloc] at this
    exact this
  have g3 : Below w.heap.size w (((w.alloc (.cells X 27)).alloc (.cells Y 27)).alloc (.cells #[.int .u64 0, .int .u64 0, .int .u64 0, .int .u64 0, .int .u64 0] 27)) := (((Below.refl w.heap.size w).alloc (Nat.le_refl _) _).alloc (by simp) _).alloc (by simp; omega) _
  have g4 : w.heap.size + 3 ≤ (((w.alloc (.cells X 27)).alloc (.cells Y 27)).alloc (.cells #[.int .u64 0, .int .u64 0, .int .u64 0, .int .u64 0, .int .u64 0] 27)).heap.size := by simp
  have HNS := Lib.hid (show N.size = 5 by rw [hN]; exact gArr_size _)
  clear hN
  generalize (((w.alloc (.cells X 27)).alloc (.cells Y 27)).alloc (.cells #[.int .u64 0, .int .u64 0, .int .u64 0, .int .u64 0, .int .u64 0] 27)) = W at *
  go_step
  refine wpList_load_box rfl 27 _ rfl g1 (by rfl) Try.underlying27 rfl (by rw [HYS.out]; kernel_rfl) ?_
  refine wpList_enter rfl 69 #[.agg Y] (by simp [go_sem, Act.put]) _ _ (HC.out W) ?_
  intro w1 hb1
  refine wpList_store_box rfl 27 _ _ rfl (g1.after hb1) (by rfl) (by rfl) (by rw [HYS.out, HZS.out]) (by rw [HZS.out]; kernel_rfl) HZ1.out ?_
  intro w2 hY2 hst
  have hX2 := hst.box (g0.after hb1) (by omega)
  have hN2 := hst.box (g2.after hb1) (by omega)
  have hB2 := hst.below w.heap.size w (by omega) (g3.trans (hb1.mono (by omega)))
  have hS2 : w.heap.size + 3 ≤ w2.heap.size := by have := hst.size; have := hb1.size; omega
  simp only [Act.put, List.setIfInBounds_toArray, List.set_cons_zero, List.set_cons_succ]
  clear hst hb1 g0 g1 g2 g3 g4
  rw [HXE.out] at hX2
  go_wp2_with fail
  go_loopw [9] (fun i wr => ∃ k : Nat, k ≤ 5 ∧ i = .int .i64 k ∧ Box wr w.heap.size 27 (gArr (mix (subF x z) x.at k)) ∧ Box wr (w.heap.size + 1) 27 Z ∧ Box wr (w.heap.size + 2) 27 N ∧ Below w.heap.size w wr ∧ w.heap.size + 3 ≤ wr.heap.size) (fun i _ => 5 - (intOf i).toNat)
  case atStart => exact ⟨0, by omega, rfl, by rw [mix_zero]; exact hX2, hY2, hN2, hB2, hS2⟩
  case round =>
    obtain ⟨wa, rfl⟩ : ∃ wa : World, wa = wr := ⟨_, rfl⟩
    obtain ⟨k, hk, rfl, hX, hZ, hN, hB, hS⟩ := hrel
    clear hX2 hY2 hN2 hB2 hS2
    by_cases hlt : k < 5
    · have gx := hX.cell k (gArr_get _ k hlt)
      rw [mix_here] at gx
      have fx := hX.frozen k
      have hZ' := hZ
      rw [HZE.out] at hZ'
      have gz := hZ'.cell k (gArr_get _ k hlt)
      have bx := HX.out k hlt
      have bz := HY.out k hlt
      have hs := mix_step (subF x z) x.at k
      have hd : subF x z k = x.at k + (p4 k - z.at k) := rfl
      have hp : p4 k = if k = 0 then 9007199254740916 else 9007199254740988 := rfl
      obtain ⟨u, hu⟩ : ∃ u, u = x.at k := ⟨_, rfl⟩
      obtain ⟨v, hv⟩ : ∃ v, v = z.at k := ⟨_, rfl⟩
      obtain ⟨r, hr⟩ : ∃ r, r = subF x z k := ⟨_, rfl⟩
      rw [← hu] at gx bx hd
      rw [← hv] at gz bz hd
      rw [← hr] at hd hs
      have HS' := Lib.hid hs
      have b5 : (0 : Int) ≤ (k : Int) := by omega
      have b6 : (k : Int) < 5 := by omega
      have b7 : IntKind.i64.wrap (k : Int) = (k : Int) := by rw [IntKind.wrap_i64]; omega
      clear hs hu hv hr hZ'
      by_cases hk0 : k = 0
      · subst hk0
        rw [if_pos rfl] at hp
        rw [hp] at hd
        obtain ⟨q, hq⟩ : ∃ q, q = 9007199254740916 - v := ⟨_, rfl⟩
        rw [← hq] at hd
        have m1 : (9007199254740916 : Int) - (v : Int) = (q : Int) := by omega
        have m2 : (u : Int) + (q : Int) = (r : Int) := by omega
        clear hd hp hq
        go_upto_region 8 with fail
        go_still_tail 14, (by kernel_rfl)
        change wpList _ _ _ _ _ wa.drew
        go_wp2_with fail
        refine ⟨⟨1, by omega, by go_num, ?_, hZ.far _ _ (by simp), hN.far _ _ (by simp), (hB.setCell (by simp) _).drew, by simpa using hS⟩, by simp [intOf]⟩
        have h1 := hX.set 0 (.int .u64 (r : Nat))
        rw [gArr_set, HS'.out] at h1
        exact h1
      · rw [if_neg hk0] at hp
        rw [hp] at hd
        obtain ⟨q, hq⟩ : ∃ q, q = 9007199254740988 - v := ⟨_, rfl⟩
        rw [← hq] at hd
        have m1 : (9007199254740988 : Int) - (v : Int) = (q : Int) := by omega
        have m2 : (u : Int) + (q : Int) = (r : Int) := by omega
        clear hd hp hq
        go_upto_region 8 with fail
        go_still_tail 14, (by kernel_rfl)
        change wpList _ _ _ _ _ wa.drew
        go_wp2_with fail
        refine ⟨⟨k + 1, by omega, by go_num, ?_, hZ.far _ _ (by simp), hN.far _ _ (by simp), (hB.setCell (by simp) _).drew, by simpa using hS⟩, by simp [intOf]; omega⟩
        have h1 := hX.set k (.int .u64 (r : Nat))
        rw [gArr_set, HS'.out] at h1
        exact h1
    · obtain rfl : k = 5 := by omega
      obtain ⟨G, hG⟩ : ∃ G, G = gArr (mix (subF x z) x.at 5) := ⟨_, rfl⟩
      rw [← hG] at hX HS
      have HGS := Lib.hid (show G.size = 5 by rw [hG]; exact gArr_size _)
      clear hG
      go_upto_region 10 with fail
      go_step
      refine wpList_load_box rfl 27 _ rfl hX (by rfl) Try.underlying27 rfl (by rw [HGS.out]; kernel_rfl) ?_
      refine wpList_enter rfl 69 #[.agg G] (by simp [go_sem, Act.put]) _ _ (HS.out wa) ?_
      intro w3 hb3
      refine wpList_store_box rfl 27 _ _ rfl (hN.after hb3) (by rfl) (by rfl) (by rw [HNS.out, HRS.out]) (by rw [HRS.out]; kernel_rfl) HR1.out ?_
      intro w4 hR4 hst
      have hB4 := hst.below w.heap.size w (by omega) (hB.trans (hb3.mono (by omega)))
      simp only [Act.put, List.setIfInBounds_toArray, List.set_cons_zero, List.set_cons_succ]
      clear hst hb3 hX hZ hN hB hS
      go_wp2_with fail
      exact bodyPost_ret (v := .agg R) (box_result rfl _ _ (by rfl) hR4 Try.underlying27 rfl (by rw [HRS.out]; kernel_rfl)) rfl ⟨rfl, hB4⟩
end Go.Proofs.Ytddgkoheihlbdaa

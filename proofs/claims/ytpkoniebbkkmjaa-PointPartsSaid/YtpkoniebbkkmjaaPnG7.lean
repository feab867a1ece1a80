/- XPt3, XPt4, XPtBase, XPt5, XPtGets in one text. -/
import Derived.Test.YtpkoniebbkkmjaaPnG6
import Derived.Deep.CutRange
import Derived.Deep.RegionHeld3
/- Points: Get. -/
namespace Go.Proofs.Ytpkoniebbkkmjaa
open Go.RowKit
attribute [local irreducible] fi dN xx rtN rtOk pw

set_option maxRecDepth 100000 in
theorem ptz : #[Value.int .u64 0, Value.int .u64 0, Value.int .u64 0, Value.int .u64 0, Value.int .u64 0, Value.int .u64 0, Value.int .u64 0, Value.int .u64 0, Value.int .u64 0, Value.int .u64 0, Value.int .u64 0, Value.int .u64 0, Value.int .u64 0, Value.int .u64 0, Value.int .u64 0, Value.int .u64 0, Value.int .u64 0, Value.int .u64 0, Value.int .u64 0, Value.int .u64 0] = pArr L5.zero L5.zero L5.zero L5.zero := by
  unfold pArr
  simp only [gArr_at]
  simp [L5.zero]
def getOk (r q : Nat) : Bool := decide (r < P25) && (rtOk (xx r) && !(q == 1 && rtN (xx r) == 0))
def getX (r q : Nat) : Nat := bif q == 1 then fs 0 (rtN (xx r)) else rtN (xx r)
def RetGet (r q : Nat) (w : World) (e : Ending) (w' : World) : Prop := ∃ x y z t : L5, e = .returned (.tuple #[.agg (pArr x y z t), .int .i64 (bif getOk r q then 0 else 8)]) ∧ (getOk r q = true → El x (getX r q) ∧ El y r ∧ El z 1 ∧ El t (fm (getX r q) r)) ∧ Below w.heap.size w w'
theorem getOk_a {r q : Nat} (h : ¬ r < P25) : getOk r q = false := by simp [getOk, h]
theorem getOk_b {r q : Nat} (h : rtOk (xx r) = false) : getOk r q = false := by simp [getOk, h]
theorem getOk_c {r : Nat} (h : (rtN (xx r) == 0) = true) : getOk r 1 = false := by simp only [getOk, h]; simp
theorem getOk_d {r : Nat} (h : r < P25) (h1 : rtOk (xx r) = true) (h2 : (rtN (xx r) == 0) = false) : getOk r 1 = true := by simp only [getOk, h1, h2, decide_eq_true h]; rfl
theorem getOk_e {r : Nat} (h : r < P25) (h1 : rtOk (xx r) = true) : getOk r 0 = true := by simp only [getOk, h1, decide_eq_true h]; rfl
theorem elOf1 {r : Nat} (h : r < P25) : El (L5.of r) r := by
  have h2 := of_lt r
  refine ⟨lt_mono h2 (by omega), h, ?_⟩
  rw [of_val, Nat.mod_eq_of_lt (show r < 57896044618658097711785492504343953926634992332820282019728792003956564819968 by unfold P25 at h; omega), Nat.mod_eq_of_lt h]
theorem bts_range {w : World} {b o n : Nat} (h : ∀ i, i < 32 → w.cell? ⟨b, o + i, none⟩ = some (.int .u8 (((leBytes n 32).getD i 0).toNat : Int))) : w.rangeAt b o (bts n).toList := fun j v hv => by
  have hj : j < 32 := by
    rcases Nat.lt_or_ge j 32 with h | h
    · exact h
    · simp at hv; simp [Array.getElem?_eq_none (show (bts n).size ≤ j by rw [bts_size]; exact h)] at hv
  simp at hv
  rw [h j hj, leBytes_get n 32 j hj, ← hv, bts_get n j hj]
theorem and_top (c q : Nat) (h : c < 128) (hq : q < 2) : bits .and .u8 ((c + 128 * q : Nat) : Int) 128 = ((128 * q : Nat) : Int) := by
  have h1 : ∀ c, c < 256 → c &&& 128 = 128 * (c / 128) := by decide +kernel
  have := u8_and_nat (c + 128 * q) 128 (by omega) (by omega)
  rw [h1 _ (by omega), show (c + 128 * q) / 128 = q by omega] at this
  exact this
theorem not_top (c q : Nat) (h : c < 128) (hq : q < 2) : bits .andNot .u8 ((c + 128 * q : Nat) : Int) 128 = (c : Int) := by
  have h1 : ∀ c, c < 256 → c &&& (255 - 128) = c % 128 := by decide +kernel
  have := u8_andNot_nat (c + 128 * q) 128 (by omega) (by omega)
  rw [h1 _ (by omega), show (c + 128 * q) % 128 = c by omega] at this
  exact this
set_option maxRecDepth 100000 in
set_option maxHeartbeats 20000000 in
theorem get_pt (r q : Nat) (hr : r < 2 ^ 255) (hq : q < 2) (a : Option Addr) (cap : Nat) (w : World) (hs : Sl w a 32 cap (leBytes (r + 2 ^ 255 * q) 32)) : Calls Try.prog 10 #[.slice a 32 cap] w (RetGet r q w) := by
  obtain ⟨b, o, rfl, hcell, hlt⟩ : ∃ b o, a = some ⟨b, o, none⟩ ∧ (∀ i, i < 32 → w.cell? ⟨b, o + i, none⟩ = some (.int .u8 (((leBytes (r + 2 ^ 255 * q) 32).getD i 0).toNat : Int))) ∧ b < w.heap.size := by
    have hlt := hs.lt
    obtain ⟨h1, h2, h3, h5, h4⟩ := hs
    rcases h4 with h4 | ⟨b, o, rfl, h4⟩
    · omega
    · exact ⟨b, o, rfl, h4, hlt b o (by omega) rfl⟩
  have HRNG : Hid (∀ w', Below w.heap.size w w' → w'.rangeAt b o (bts (r + 2 ^ 255 * q)).toList) := Lib.hid fun w' hb => bts_range fun i hi => (hb.cell (p := ⟨b, o + i, none⟩) hlt).trans (hcell i hi)
  have HRL := Lib.hid hr
  have HQL := Lib.hid hq
  have hr8 : r < 256 ^ 32 := by simp only [Nat.reducePow] at *; omega
  obtain ⟨y, hy⟩ : ∃ y, y = (bif decide (r < P25) then L5.of r else L5.zero) := ⟨_, rfl⟩
  obtain ⟨ye, hye⟩ : ∃ ye : Int, ye = (bif decide (r < P25) then 0 else 6) := ⟨_, rfl⟩
  have HGET : Hid (∀ (w : World) (g : Nat), Box w g 39 (bts r) → Calls Try.prog 28 #[.slice (some ⟨g, 0, none⟩) 32 32] w fun e w' => e = .returned (.tuple #[.agg (gArr y.at), .int .i64 ye]) ∧ Below w.heap.size w w') := by
    refine Lib.hid fun w g h => ?_
    have := get_any (leBytes r 32) _ 32 w (bts_sl h)
    rw [leNat_bytes 32 r hr8, ← hy, ← hye] at this
    exact this
  have HYY := Lib.hid hy
  have HYE := Lib.hid hye
  have HOF := Lib.hid (of_g 1 (by decide))
  clear hr hq hr8 hy hye hs hcell hlt
  go_enter Try.func10, Try.ntmps10
  go_upto_region 4 with fail
  have hR : Box (w.alloc (.cells #[.int .u64 0, .int .u64 0, .int .u64 0, .int .u64 0, .int .u64 0, .int .u64 0, .int .u64 0, .int .u64 0, .int .u64 0, .int .u64 0, .int .u64 0, .int .u64 0, .int .u64 0, .int .u64 0, .int .u64 0, .int .u64 0, .int .u64 0, .int .u64 0, .int .u64 0, .int .u64 0] 29)) w.heap.size 29 #[.int .u64 0, .int .u64 0, .int .u64 0, .int .u64 0, .int .u64 0, .int .u64 0, .int .u64 0, .int .u64 0, .int .u64 0, .int .u64 0, .int .u64 0, .int .u64 0, .int .u64 0, .int .u64 0, .int .u64 0, .int .u64 0, .int .u64 0, .int .u64 0, .int .u64 0, .int .u64 0] := Box.new _ _ _
  have lR : w.heap.size ≤ w.heap.size := Nat.le_refl _
  have hB : Below w.heap.size w (w.alloc (.cells #[.int .u64 0, .int .u64 0, .int .u64 0, .int .u64 0, .int .u64 0, .int .u64 0, .int .u64 0, .int .u64 0, .int .u64 0, .int .u64 0, .int .u64 0, .int .u64 0, .int .u64 0, .int .u64 0, .int .u64 0, .int .u64 0, .int .u64 0, .int .u64 0, .int .u64 0, .int .u64 0] 29)) := (Below.refl w.heap.size w).alloc (by simp) _
  have hS := hB.size
  have hrng := HRNG.out _ hB
  change Code.wp _ _ _ _ (w.alloc (.cells #[.int .u64 0, .int .u64 0, .int .u64 0, .int .u64 0, .int .u64 0, .int .u64 0, .int .u64 0, .int .u64 0, .int .u64 0, .int .u64 0, .int .u64 0, .int .u64 0, .int .u64 0, .int .u64 0, .int .u64 0, .int .u64 0, .int .u64 0, .int .u64 0, .int .u64 0, .int .u64 0] 29))
  generalize (w.alloc (.cells #[.int .u64 0, .int .u64 0, .int .u64 0, .int .u64 0, .int .u64 0, .int .u64 0, .int .u64 0, .int .u64 0, .int .u64 0, .int .u64 0, .int .u64 0, .int .u64 0, .int .u64 0, .int .u64 0, .int .u64 0, .int .u64 0, .int .u64 0, .int .u64 0, .int .u64 0, .int .u64 0] 29)) = v0 at *
  go_step
  refine wpList_value rfl (.slice (some ⟨b, o, none⟩) 32 cap) (by simp [go_sem]) ?_
  simp only [Act.put, List.setIfInBounds_toArray, List.set_cons_zero, List.set_cons_succ]
  refine wpList_value rfl (.pointer (some ⟨b, o, none⟩)) (by simp [go_sem, Instr.arrayAt]) ?_
  simp only [Act.put, List.setIfInBounds_toArray, List.set_cons_zero, List.set_cons_succ]
  refine wpList_value rfl (.agg (bts (r + 2 ^ 255 * q))) (run_load_mid rfl hrng (by rfl) Try.underlying39 rfl (by rw [bts_size]; kernel_rfl)) ?_
  simp only [Act.put, List.setIfInBounds_toArray, List.set_cons_zero, List.set_cons_succ]
  clear hrng
  refine wpList_new rfl 39 rfl (Array.replicate 32 (Value.int .u8 0)) (by intro w; simp [go_sem]; rfl) ?_
  intro gA v1 hA lA bv1
  simp only [Act.put, List.setIfInBounds_toArray, List.set_cons_zero, List.set_cons_succ]
  have n_R_A := hR.before lA
  have n_A_R := hR.behind lA
  replace lA := Nat.le_trans hS lA
  replace hR := hR.after bv1
  replace hB := hB.trans (bv1.mono hS)
  replace hS := Nat.le_trans hS bv1.size
  clear bv1
  refine wpList_store_box (cells := bts (r + 2 ^ 255 * q)) rfl 39 (.tmp 6) (.tmp 26) rfl hA (by rfl) (by rfl) (by rw [bts_size]; rfl) (by rw [bts_size]; kernel_rfl) (bts_one _) ?_
  intro v2 hA_ stv2
  simp only [Act.put]
  replace hR := stv2.box hR n_R_A
  replace hB := stv2.below w.heap.size w lA hB
  replace hS := Nat.le_trans hS (Nat.le_of_eq stv2.size.symm)
  clear hA stv2
  have hA := hA_
  clear hA_
  have x31 := hA.cell 31 (bts_get _ 31 (by omega))
  rw [top_byte r q HRL.out HQL.out] at x31
  have f31 := hA.frozen 31
  have hc := top_low r HRL.out
  have hset := bts_set r q 0 HRL.out (by omega)
  simp only [Nat.mul_zero, Nat.add_zero] at hset
  have m1 := and_top (r / 256 ^ 31) q hc HQL.out
  have m2 := not_top (r / 256 ^ 31) q hc HQL.out
  generalize r / 256 ^ 31 = c at *
  obtain ⟨tp, htp⟩ : ∃ tp, tp = c + 128 * q := ⟨_, rfl⟩
  rw [← htp] at m1 m2 x31
  obtain ⟨k, hk⟩ : ∃ k, k = 128 * q := ⟨_, rfl⟩
  rw [← hk] at m1
  have m3 : ((k : Int) != 0) = (q == 1) := by
    have := HQL.out
    rcases Nat.lt_or_ge q 1 with h | h
    · obtain rfl : q = 0 := by omega
      subst hk; rfl
    · obtain rfl : q = 1 := by omega
      subst hk; rfl
  have HSET := Lib.hid hset
  obtain ⟨odd, hodd⟩ : ∃ odd, odd = (q == 1) := ⟨_, rfl⟩
  rw [← hodd] at m3
  have HODD := Lib.hid hodd
  have w8 : IntKind.u8.wrap (c : Int) = (c : Int) := by rw [IntKind.wrap_u8]; omega
  clear hset htp hk hodd
  go_upto_region 7 with fail
  have hA2 := hA.set 31 (.int .u8 (c : Nat))
  rw [HSET.out] at hA2
  have hR2 := hR.far ⟨gA, 31, none⟩ (.int .u8 (c : Nat)) n_R_A
  have hB2 := hB.setCell (p := ⟨gA, 31, none⟩) lA (.int .u8 (c : Nat))
  have hS2 := hB2.size
  clear hA hR hB hS x31 f31 m1 m2 m3 w8 hc
  change Code.wp _ _ _ _ (Go.World.setCell _ ⟨gA, 31, none⟩ (.int .u8 (c : Nat)))
  generalize Go.World.setCell _ ⟨gA, 31, none⟩ (.int .u8 (c : Nat)) = vq at *
  have hA := hA2
  have hR := hR2
  have hB := hB2
  have hS := hS2
  clear hA2 hR2 hB2 hS2
  go_step
  refine wpList_value rfl (.slice (some ⟨gA, 0, none⟩) 32 32) (by simp [go_sem]) ?_
  simp only [Act.put, List.setIfInBounds_toArray, List.set_cons_zero, List.set_cons_succ]
  refine wpList_made_call rfl 28 #[.slice (some ⟨gA, 0, none⟩) 32 32] (by simp [go_sem]) _ (HGET.out _ _ hA) ?_
  intro v3 bv3
  simp only [Act.put, List.setIfInBounds_toArray, List.set_cons_zero, List.set_cons_succ]
  replace hR := hR.after bv3
  replace hA := hA.after bv3
  replace hB := hB.trans (bv3.mono hS)
  replace hS := Nat.le_trans hS bv3.size
  clear bv3
  refine wpList_value rfl (.tuple #[.agg (gArr y.at), .int .i64 ye]) (by simp [go_sem]) ?_
  simp only [Act.put, List.setIfInBounds_toArray, List.set_cons_zero, List.set_cons_succ]
  refine wpList_value rfl (.agg (gArr y.at)) (by simp [go_sem]) ?_
  simp only [Act.put, List.setIfInBounds_toArray, List.set_cons_zero, List.set_cons_succ]
  refine wpList_value rfl (.int .i64 ye) (by simp [go_sem]) ?_
  simp only [Act.put, List.setIfInBounds_toArray, List.set_cons_zero, List.set_cons_succ]
  refine wpList_new rfl 27 rfl #[.int .u64 0, .int .u64 0, .int .u64 0, .int .u64 0, .int .u64 0] (by intro w; simp [go_sem]) ?_
  intro gY v4 hY lY bv4
  simp only [Act.put, List.setIfInBounds_toArray, List.set_cons_zero, List.set_cons_succ]
  have n_R_Y := hR.before lY
  have n_Y_R := hR.behind lY
  have n_A_Y := hA.before lY
  have n_Y_A := hA.behind lY
  replace lY := Nat.le_trans hS lY
  replace hR := hR.after bv4
  replace hA := hA.after bv4
  replace hB := hB.trans (bv4.mono hS)
  replace hS := Nat.le_trans hS bv4.size
  clear bv4
  refine wpList_store_box (cells := gArr y.at) rfl 27 (.tmp 8) (.tmp 38) rfl hY (by rfl) (by rfl) (by rw [gArr_size]; rfl) (by rw [gArr_size]; kernel_rfl) (gArr_one _) ?_
  intro v5 hY_ stv5
  simp only [Act.put]
  replace hR := stv5.box hR n_R_Y
  replace hA := stv5.box hA n_A_Y
  replace hB := stv5.below w.heap.size w lY hB
  replace hS := Nat.le_trans hS (Nat.le_of_eq stv5.size.symm)
  clear hY stv5
  have hY := hY_
  clear hY_
  refine wpList_value rfl (.int .i64 ye) (by simp [go_sem]) ?_
  simp only [Act.put, List.setIfInBounds_toArray, List.set_cons_zero, List.set_cons_succ]
  clear hA
  by_cases hrp : r < P25
  case neg =>
    obtain rfl : ye = 6 := by rw [HYE.out, decide_eq_false hrp]; rfl
    have HNO := Lib.hid (getOk_a (q := q) hrp)
    clear hrp
    go_upto_region 9 with fail
    go_step
    refine wpList_value rfl (.agg (pArr L5.zero L5.zero L5.zero L5.zero)) (by simp [go_sem, ptz]) ?_
    simp only [Act.put, List.setIfInBounds_toArray, List.set_cons_zero, List.set_cons_succ]
    refine wpList_store_box (cells := pArr L5.zero L5.zero L5.zero L5.zero) rfl 29 (.tmp 2) (.tmp 42) rfl hR (by rfl) (by rfl) (by rw [pArr_size L5.zero L5.zero L5.zero L5.zero]; rfl) (by rw [pArr_size L5.zero L5.zero L5.zero L5.zero]; kernel_rfl) (pArr_one _ _ _ _) ?_
    intro v6 hR_ stv6
    simp only [Act.put]
    replace hY := stv6.box hY n_Y_R
    replace hB := stv6.below w.heap.size w lR hB
    replace hS := Nat.le_trans hS (Nat.le_of_eq stv6.size.symm)
    clear hR stv6
    have hR := hR_
    clear hR_
    refine wpList_value rfl (.int .i64 8) (by simp [go_sem]) ?_
    simp only [Act.put, List.setIfInBounds_toArray, List.set_cons_zero, List.set_cons_succ]
    obtain ⟨G, hG⟩ : ∃ G, G = pArr L5.zero L5.zero L5.zero L5.zero := ⟨_, rfl⟩
    rw [← hG] at hR
    have HGS := Lib.hid (show G.size = 20 by rw [hG]; exact pArr_size _ _ _ _)
    have HG := Lib.hid hG
    clear hG hY
    go_wp2_with fail
    exact bodyPost_ret (v := .tuple #[.agg G, .int .i64 8]) (box_result2 (p := 2) (q := 3) rfl _ _ (by rfl) hR Try.underlying29 rfl (by rw [HGS.out]; kernel_rfl)) rfl ⟨_, _, _, _, by rw [HG.out, HNO.out]; rfl, (fun h => by rw [HNO.out] at h; cases h), hB⟩
  case pos =>
    obtain rfl : ye = 0 := by rw [HYE.out, decide_eq_true hrp]; rfl
    have HY : Hid (El y r) := Lib.hid (by rw [HYY.out, decide_eq_true hrp]; exact elOf1 hrp)
    have HRP := Lib.hid hrp
    clear hrp
    go_upto_region 10 with fail
    go_step
    refine wpList_made_call rfl 29 #[.int .u64 1] (by simp [go_sem]) _ (HOF.out _) ?_
    intro v6 bv6
    simp only [Act.put, List.setIfInBounds_toArray, List.set_cons_zero, List.set_cons_succ]
    replace hR := hR.after bv6
    replace hY := hY.after bv6
    replace hB := hB.trans (bv6.mono hS)
    replace hS := Nat.le_trans hS bv6.size
    clear bv6
    refine wpList_new rfl 27 rfl #[.int .u64 0, .int .u64 0, .int .u64 0, .int .u64 0, .int .u64 0] (by intro w; simp [go_sem]) ?_
    intro gO v7 hO lO bv7
    simp only [Act.put, List.setIfInBounds_toArray, List.set_cons_zero, List.set_cons_succ]
    have n_R_O := hR.before lO
    have n_O_R := hR.behind lO
    have n_Y_O := hY.before lO
    have n_O_Y := hY.behind lO
    replace lO := Nat.le_trans hS lO
    replace hR := hR.after bv7
    replace hY := hY.after bv7
    replace hB := hB.trans (bv7.mono hS)
    replace hS := Nat.le_trans hS bv7.size
    clear bv7
    refine wpList_store_box (cells := gArr (ofL 1).at) rfl 27 (.tmp 10) (.tmp 43) rfl hO (by rfl) (by rfl) (by rw [gArr_size]; rfl) (by rw [gArr_size]; kernel_rfl) (gArr_one _) ?_
    intro v8 hO_ stv8
    simp only [Act.put]
    replace hR := stv8.box hR n_R_O
    replace hY := stv8.box hY n_Y_O
    replace hB := stv8.below w.heap.size w lO hB
    replace hS := Nat.le_trans hS (Nat.le_of_eq stv8.size.symm)
    clear hO stv8
    have hO := hO_
    clear hO_
    have HYY2 := Lib.hid (fun w : World => mul_el HY.out HY.out w)
    have HE2 := Lib.hid (elM HY.out HY.out)
    go_upto_region 11 with fail
    go_step
    refine wpList_load_box rfl 27 _ rfl hY (by rfl) Try.underlying27 rfl (by rw [gArr_size]; kernel_rfl) ?_
    simp only [Act.put, List.setIfInBounds_toArray, List.set_cons_zero, List.set_cons_succ]
    refine wpList_load_box rfl 27 _ rfl hY (by rfl) Try.underlying27 rfl (by rw [gArr_size]; kernel_rfl) ?_
    simp only [Act.put, List.setIfInBounds_toArray, List.set_cons_zero, List.set_cons_succ]
    refine wpList_made_call rfl 30 #[.agg (gArr y.at), .agg (gArr y.at)] (by simp [go_sem]) _ (HYY2.out _) ?_
    intro v9 bv9
    simp only [Act.put, List.setIfInBounds_toArray, List.set_cons_zero, List.set_cons_succ]
    replace hR := hR.after bv9
    replace hY := hY.after bv9
    replace hO := hO.after bv9
    replace hB := hB.trans (bv9.mono hS)
    replace hS := Nat.le_trans hS bv9.size
    clear bv9
    generalize y.mul y = y2 at *
    refine wpList_new rfl 27 rfl #[.int .u64 0, .int .u64 0, .int .u64 0, .int .u64 0, .int .u64 0] (by intro w; simp [go_sem]) ?_
    intro gQ v10 hQ lQ bv10
    simp only [Act.put, List.setIfInBounds_toArray, List.set_cons_zero, List.set_cons_succ]
    have n_R_Q := hR.before lQ
    have n_Q_R := hR.behind lQ
    have n_Y_Q := hY.before lQ
    have n_Q_Y := hY.behind lQ
    have n_O_Q := hO.before lQ
    have n_Q_O := hO.behind lQ
    replace lQ := Nat.le_trans hS lQ
    replace hR := hR.after bv10
    replace hY := hY.after bv10
    replace hO := hO.after bv10
    replace hB := hB.trans (bv10.mono hS)
    replace hS := Nat.le_trans hS bv10.size
    clear bv10
    refine wpList_store_box (cells := gArr y2.at) rfl 27 (.tmp 11) (.tmp 46) rfl hQ (by rfl) (by rfl) (by rw [gArr_size]; rfl) (by rw [gArr_size]; kernel_rfl) (gArr_one _) ?_
    intro v11 hQ_ stv11
    simp only [Act.put]
    replace hR := stv11.box hR n_R_Q
    replace hY := stv11.box hY n_Y_Q
    replace hO := stv11.box hO n_O_Q
    replace hB := stv11.below w.heap.size w lQ hB
    replace hS := Nat.le_trans hS (Nat.le_of_eq stv11.size.symm)
    clear hQ stv11
    have hQ := hQ_
    clear hQ_
    have HSB := Lib.hid (fun w : World => sub_el HE2.out el_one w)
    have HE3 := Lib.hid (elS HE2.out el_one)
    generalize y2.sub (ofL 1) = y3 at *
    obtain ⟨cc, hcc⟩ : ∃ cc, cc = rtOk (xx r) := ⟨_, rfl⟩
    obtain ⟨rn, hrn⟩ : ∃ rn, rn = rtN (xx r) := ⟨_, rfl⟩
    have HROOT := Lib.hid (fun (x : L5) (w : World) (h : El x (xx r)) => root_any x (xx r) w h)
    unfold RetRoot at HROOT
    rw [← hcc, ← hrn] at HROOT
    have HCC := Lib.hid hcc
    have HRN := Lib.hid hrn
    clear hcc hrn
    go_upto_region 12 with fail
    go_cut [12, 13] from 14 (fun s12 s13 w' => s13 = Value.bool cc ∧ ∃ (gX : Nat) (x2 : L5), s12 = .pointer (some ⟨gX, 0, none⟩) ∧ El x2 rn ∧ Box w' gX 27 (gArr x2.at) ∧ Box w' w.heap.size 29 (#[.int .u64 0, .int .u64 0, .int .u64 0, .int .u64 0, .int .u64 0, .int .u64 0, .int .u64 0, .int .u64 0, .int .u64 0, .int .u64 0, .int .u64 0, .int .u64 0, .int .u64 0, .int .u64 0, .int .u64 0, .int .u64 0, .int .u64 0, .int .u64 0, .int .u64 0, .int .u64 0]) ∧ Box w' gY 27 (gArr y.at) ∧ Box w' gO 27 (gArr (ofL 1).at) ∧ w.heap.size ≤ gX ∧ gX ≠ w.heap.size ∧ w.heap.size ≠ gX ∧ gX ≠ gY ∧ gY ≠ gX ∧ gX ≠ gO ∧ gO ≠ gX ∧ Below w.heap.size w w' ∧ w.heap.size ≤ w'.heap.size)
    case first =>
      have hKS : Keeps (fun w' => Box w' gQ 27 (gArr y2.at) ∧ Box w' gO 27 (gArr (ofL 1).at)) := fun w w' h b => ⟨h.1.after b, h.2.after b⟩
      refine wp_region_U (w := v11) (fun w' => Box w' gQ 27 (gArr y2.at) ∧ Box w' gO 27 (gArr (ofL 1).at)) rfl (⟨hQ.drew, hO.drew⟩) ?_
      replace hR := hR.drew
      replace hY := hY.drew
      replace hO := hO.drew
      replace hQ := hQ.drew
      replace hB := hB.drew
      replace hS := Nat.le_trans hS (show v11.heap.size ≤ v11.drew.heap.size from Nat.le_refl _)
      refine wpU_val 0 hKS rfl (by kernel_rfl) (by kernel_rfl) (by kernel_rfl) rfl (fun _ _ _ _ h => h) (.agg (gArr y2.at)) (fun w' h => run_load_box rfl h.1 (by simp [go_sem]) Try.underlying27 rfl (by rw [gArr_size]; kernel_rfl)) ?_
      simp only [Act.put, List.setIfInBounds_toArray, List.set_cons_zero, List.set_cons_succ]
      refine wpU_val 1 hKS rfl (by kernel_rfl) (by kernel_rfl) (by kernel_rfl) rfl (fun _ _ _ _ h => h) (.agg (gArr (ofL 1).at)) (fun w' h => run_load_box rfl h.2 (by simp [go_sem]) Try.underlying27 rfl (by rw [gArr_size]; kernel_rfl)) ?_
      simp only [Act.put, List.setIfInBounds_toArray, List.set_cons_zero, List.set_cons_succ]
      refine wpU_call 2 hKS rfl (by kernel_rfl) (by kernel_rfl) (by kernel_rfl) rfl (fun _ _ _ _ h => h) 31 #[.agg (gArr y2.at), .agg (gArr (ofL 1).at)] (fun w => by simp [go_sem]) _ (HSB.out) ?_
      simp only [Act.put, List.setIfInBounds_toArray, List.set_cons_zero, List.set_cons_succ]
      refine wpU_val 4 hKS rfl (by kernel_rfl) (by kernel_rfl) (by kernel_rfl) rfl (fun _ _ _ _ h => h) (.agg (gArr y2.at)) (fun w' h => run_load_box rfl h.1 (by simp [go_sem]) Try.underlying27 rfl (by rw [gArr_size]; kernel_rfl)) ?_
      simp only [Act.put, List.setIfInBounds_toArray, List.set_cons_zero, List.set_cons_succ]
      refine wpU_val 6 hKS rfl (by kernel_rfl) (by kernel_rfl) (by kernel_rfl) rfl (fun _ _ _ _ h => h) (.agg (gArr (ofL 1).at)) (fun w' h => run_load_box rfl h.2 (by simp [go_sem]) Try.underlying27 rfl (by rw [gArr_size]; kernel_rfl)) ?_
      simp only [Act.put, List.setIfInBounds_toArray, List.set_cons_zero, List.set_cons_succ]
      refine wpU_two 3 14 rfl rfl (by kernel_rfl) rfl rfl ?_ ?_
      · intro v12 bv12 sS
        replace hR := hR.after bv12
        replace hY := hY.after bv12
        replace hO := hO.after bv12
        replace hQ := hQ.after bv12
        replace hB := hB.trans (bv12.mono hS)
        replace hS := Nat.le_trans hS bv12.size
        clear bv12
        refine wp_callR 32 #[] (by simp [go_sem]) _ (curve_any _) ?_
        rintro e v13 ⟨dd, rfl, hz, bv13⟩
        refine ⟨_, rfl, hKS _ _ sS bv13, ?_⟩
        replace sS := hKS _ _ sS bv13
        simp only [Act.put, List.setIfInBounds_toArray, List.set_cons_zero, List.set_cons_succ]
        replace hR := hR.after bv13
        replace hY := hY.after bv13
        replace hO := hO.after bv13
        replace hQ := hQ.after bv13
        replace hB := hB.trans (bv13.mono hS)
        replace hS := Nat.le_trans hS bv13.size
        clear bv13
        have HD := Lib.hid hz
        clear hz
        refine wpU_call 5 hKS rfl (by kernel_rfl) (by kernel_rfl) (by kernel_rfl) rfl (fun _ _ _ _ h => h) 30 #[.agg (gArr dd.at), .agg (gArr y2.at)] (fun w => by simp [go_sem]) _ (mul_el HD.out HE2.out) ?_
        simp only [Act.put, List.setIfInBounds_toArray, List.set_cons_zero, List.set_cons_succ]
        refine wpU_call 7 hKS rfl (by kernel_rfl) (by kernel_rfl) (by kernel_rfl) rfl (fun _ _ _ _ h => h) 33 #[.agg (gArr (dd.mul y2).at), .agg (gArr (ofL 1).at)] (fun w => by simp [go_sem]) _ (add_el (elM HD.out HE2.out) el_one) ?_
        simp only [Act.put, List.setIfInBounds_toArray, List.set_cons_zero, List.set_cons_succ]
        refine wpU_two 8 14 rfl rfl (by kernel_rfl) rfl rfl ?_ ?_
        · intro v14 bv14 sS
          replace hR := hR.after bv14
          replace hY := hY.after bv14
          replace hO := hO.after bv14
          replace hQ := hQ.after bv14
          replace hB := hB.trans (bv14.mono hS)
          replace hS := Nat.le_trans hS bv14.size
          clear bv14
          refine wp_callR 34 #[.agg (gArr ((dd.mul y2).add (ofL 1)).at)] (by simp [go_sem]) _ (inv_fi _ _ _ (elA (elM HD.out HE2.out) el_one)) ?_
          rintro e v15 ⟨i, rfl, hi, bv15⟩
          refine ⟨_, rfl, hKS _ _ sS bv15, ?_⟩
          replace sS := hKS _ _ sS bv15
          simp only [Act.put, List.setIfInBounds_toArray, List.set_cons_zero, List.set_cons_succ]
          replace hR := hR.after bv15
          replace hY := hY.after bv15
          replace hO := hO.after bv15
          replace hQ := hQ.after bv15
          replace hB := hB.trans (bv15.mono hS)
          replace hS := Nat.le_trans hS bv15.size
          clear bv15
          have HI := Lib.hid hi
          clear hi
          refine wpU_call 9 hKS rfl (by kernel_rfl) (by kernel_rfl) (by kernel_rfl) rfl (fun _ _ _ _ h => h) 30 #[.agg (gArr y3.at), .agg (gArr i.at)] (fun w => by simp [go_sem]) _ (mul_el HE3.out HI.out) ?_
          simp only [Act.put, List.setIfInBounds_toArray, List.set_cons_zero, List.set_cons_succ]
          have HX5 : Hid (El (y3.mul i) (xx r)) := Lib.hid (by rw [xx_def]; exact elM HE3.out HI.out)
          refine wpU_two 10 14 rfl rfl (by kernel_rfl) rfl rfl ?_ ?_
          · intro v16 bv16 sS
            replace hR := hR.after bv16
            replace hY := hY.after bv16
            replace hO := hO.after bv16
            replace hQ := hQ.after bv16
            replace hB := hB.trans (bv16.mono hS)
            replace hS := Nat.le_trans hS bv16.size
            clear bv16
            refine wp_callR 35 #[.agg (gArr (y3.mul i).at)] (by simp [go_sem]) _ (HROOT.out _ _ HX5.out) ?_
            rintro e v17 ⟨x2, rfl, hr2, bv17⟩
            refine ⟨_, rfl, hKS _ _ sS bv17, ?_⟩
            replace sS := hKS _ _ sS bv17
            simp only [Act.put, List.setIfInBounds_toArray, List.set_cons_zero, List.set_cons_succ]
            replace hR := hR.after bv17
            replace hY := hY.after bv17
            replace hO := hO.after bv17
            replace hQ := hQ.after bv17
            replace hB := hB.trans (bv17.mono hS)
            replace hS := Nat.le_trans hS bv17.size
            clear bv17
            have HX2 := Lib.hid hr2
            clear hr2
            refine wpU_val 11 hKS rfl (by kernel_rfl) (by kernel_rfl) (by kernel_rfl) rfl (fun _ _ _ _ h => h) (.tuple #[.agg (gArr x2.at), .bool cc]) (fun w' h => by simp [go_sem]) ?_
            simp only [Act.put, List.setIfInBounds_toArray, List.set_cons_zero, List.set_cons_succ]
            refine wpU_val 12 hKS rfl (by kernel_rfl) (by kernel_rfl) (by kernel_rfl) rfl (fun _ _ _ _ h => h) (.agg (gArr x2.at)) (fun w' h => by simp [go_sem]) ?_
            simp only [Act.put, List.setIfInBounds_toArray, List.set_cons_zero, List.set_cons_succ]
            refine wpU_val 13 hKS rfl (by kernel_rfl) (by kernel_rfl) (by kernel_rfl) rfl (fun _ _ _ _ h => h) (.bool cc) (fun w' h => by simp [go_sem]) ?_
            simp only [Act.put, List.setIfInBounds_toArray, List.set_cons_zero, List.set_cons_succ]
            refine wpU_one 14 rfl (by kernel_rfl) rfl ?_
            intro v18 bv18 sS
            replace hR := hR.after bv18
            replace hY := hY.after bv18
            replace hO := hO.after bv18
            replace hQ := hQ.after bv18
            replace hB := hB.trans (bv18.mono hS)
            replace hS := Nat.le_trans hS bv18.size
            clear bv18
            refine wp_alloc_new 27 rfl #[.int .u64 0, .int .u64 0, .int .u64 0, .int .u64 0, .int .u64 0] (by intro w; simp [go_sem]) ?_
            intro gX v19 hX lX bv19
            refine ⟨hKS _ _ sS bv19, ?_⟩
            have n_R_X := hR.before lX
            have n_X_R := hR.behind lX
            have n_Y_X := hY.before lX
            have n_X_Y := hY.behind lX
            have n_O_X := hO.before lX
            have n_X_O := hO.behind lX
            have n_Q_X := hQ.before lX
            have n_X_Q := hQ.behind lX
            replace lX := Nat.le_trans hS lX
            replace sS := hKS _ _ sS bv19
            simp only [Act.put, List.setIfInBounds_toArray, List.set_cons_zero, List.set_cons_succ]
            replace hR := hR.after bv19
            replace hY := hY.after bv19
            replace hO := hO.after bv19
            replace hQ := hQ.after bv19
            replace hB := hB.trans (bv19.mono hS)
            replace hS := Nat.le_trans hS bv19.size
            clear bv19
            refine wpU_store_box (cells := gArr x2.at) 15 rfl (by kernel_rfl) rfl 27 (.tmp 12) (.tmp 59) rfl hX (by simp [go_sem]) (by simp [go_sem]) (by rw [gArr_size]; rfl) (by rw [gArr_size]; kernel_rfl) (gArr_one _) ?_
            intro v20 v21 bv20 sS hX_ stv21
            refine ⟨⟨stv21.box sS.1 n_Q_X, stv21.box sS.2 n_O_X⟩, ?_⟩
            simp only [Act.put]
            replace hR := hR.after bv20
            replace hY := hY.after bv20
            replace hO := hO.after bv20
            replace hQ := hQ.after bv20
            replace hX := hX.after bv20
            replace hB := hB.trans (bv20.mono hS)
            replace hS := Nat.le_trans hS bv20.size
            clear bv20
            replace hR := stv21.box hR n_R_X
            replace hY := stv21.box hY n_Y_X
            replace hO := stv21.box hO n_O_X
            replace hQ := stv21.box hQ n_Q_X
            replace hB := stv21.below w.heap.size w lX hB
            replace hS := Nat.le_trans hS (Nat.le_of_eq stv21.size.symm)
            clear hX stv21 sS
            have hX := hX_
            clear hX_
            refine wpU_val 16 hKS rfl (by kernel_rfl) (by kernel_rfl) (by kernel_rfl) rfl (fun _ _ _ _ h => h) (.bool cc) (fun w' h => by simp [go_sem]) ?_
            simp only [Act.put, List.setIfInBounds_toArray, List.set_cons_zero, List.set_cons_succ]
            refine wpU_done (by kernel_rfl) ?_
            intro v22 bv22 sS
            clear hKS sS
            replace hR := hR.after bv22
            replace hY := hY.after bv22
            replace hO := hO.after bv22
            replace hQ := hQ.after bv22
            replace hX := hX.after bv22
            replace hB := hB.trans (bv22.mono hS)
            replace hS := Nat.le_trans hS bv22.size
            clear bv22
            have fin : Box v22 gX 27 (gArr x2.at) ∧ Box v22 w.heap.size 29 (#[.int .u64 0, .int .u64 0, .int .u64 0, .int .u64 0, .int .u64 0, .int .u64 0, .int .u64 0, .int .u64 0, .int .u64 0, .int .u64 0, .int .u64 0, .int .u64 0, .int .u64 0, .int .u64 0, .int .u64 0, .int .u64 0, .int .u64 0, .int .u64 0, .int .u64 0, .int .u64 0]) ∧ Box v22 gY 27 (gArr y.at) ∧ Box v22 gO 27 (gArr (ofL 1).at) ∧ w.heap.size ≤ gX ∧ gX ≠ w.heap.size ∧ w.heap.size ≠ gX ∧ gX ≠ gY ∧ gY ≠ gX ∧ gX ≠ gO ∧ gO ≠ gX ∧ Below w.heap.size w v22 ∧ w.heap.size ≤ v22.heap.size := ⟨hX, hR, hY, hO, lX, n_X_R, n_R_X, n_X_Y, n_Y_X, n_X_O, n_O_X, hB, hS⟩
            clear hX hR hY hO hQ hB hS
            go_wp2_with fail
            go_meet
            case rel => exact ⟨rfl, _, _, rfl, HX2.out, fin⟩
          · intro v16 bv16 sS
            replace hR := hR.after bv16
            replace hY := hY.after bv16
            replace hO := hO.after bv16
            replace hQ := hQ.after bv16
            replace hB := hB.trans (bv16.mono hS)
            replace hS := Nat.le_trans hS bv16.size
            clear bv16
            refine wp_alloc_new 27 rfl #[.int .u64 0, .int .u64 0, .int .u64 0, .int .u64 0, .int .u64 0] (by intro w; simp [go_sem]) ?_
            intro gX v17 hX lX bv17
            refine ⟨hKS _ _ sS bv17, ?_⟩
            have n_R_X := hR.before lX
            have n_X_R := hR.behind lX
            have n_Y_X := hY.before lX
            have n_X_Y := hY.behind lX
            have n_O_X := hO.before lX
            have n_X_O := hO.behind lX
            have n_Q_X := hQ.before lX
            have n_X_Q := hQ.behind lX
            replace lX := Nat.le_trans hS lX
            replace sS := hKS _ _ sS bv17
            simp only [Act.put, List.setIfInBounds_toArray, List.set_cons_zero, List.set_cons_succ]
            replace hR := hR.after bv17
            replace hY := hY.after bv17
            replace hO := hO.after bv17
            replace hQ := hQ.after bv17
            replace hB := hB.trans (bv17.mono hS)
            replace hS := Nat.le_trans hS bv17.size
            clear bv17
            refine wpU_one 10 rfl (by kernel_rfl) rfl ?_
            intro v18 bv18 sS
            replace hR := hR.after bv18
            replace hY := hY.after bv18
            replace hO := hO.after bv18
            replace hQ := hQ.after bv18
            replace hX := hX.after bv18
            replace hB := hB.trans (bv18.mono hS)
            replace hS := Nat.le_trans hS bv18.size
            clear bv18
            refine wp_callR 35 #[.agg (gArr (y3.mul i).at)] (by simp [go_sem]) _ (HROOT.out _ _ HX5.out) ?_
            rintro e v19 ⟨x2, rfl, hr2, bv19⟩
            refine ⟨_, rfl, hKS _ _ sS bv19, ?_⟩
            replace sS := hKS _ _ sS bv19
            simp only [Act.put, List.setIfInBounds_toArray, List.set_cons_zero, List.set_cons_succ]
            replace hR := hR.after bv19
            replace hY := hY.after bv19
            replace hO := hO.after bv19
            replace hQ := hQ.after bv19
            replace hX := hX.after bv19
            replace hB := hB.trans (bv19.mono hS)
            replace hS := Nat.le_trans hS bv19.size
            clear bv19
            have HX2 := Lib.hid hr2
            clear hr2
            refine wpU_val 11 hKS rfl (by kernel_rfl) (by kernel_rfl) (by kernel_rfl) rfl (fun _ _ _ _ h => h) (.tuple #[.agg (gArr x2.at), .bool cc]) (fun w' h => by simp [go_sem]) ?_
            simp only [Act.put, List.setIfInBounds_toArray, List.set_cons_zero, List.set_cons_succ]
            refine wpU_val 12 hKS rfl (by kernel_rfl) (by kernel_rfl) (by kernel_rfl) rfl (fun _ _ _ _ h => h) (.agg (gArr x2.at)) (fun w' h => by simp [go_sem]) ?_
            simp only [Act.put, List.setIfInBounds_toArray, List.set_cons_zero, List.set_cons_succ]
            refine wpU_val 13 hKS rfl (by kernel_rfl) (by kernel_rfl) (by kernel_rfl) rfl (fun _ _ _ _ h => h) (.bool cc) (fun w' h => by simp [go_sem]) ?_
            simp only [Act.put, List.setIfInBounds_toArray, List.set_cons_zero, List.set_cons_succ]
            refine wpU_store_box (cells := gArr x2.at) 15 rfl (by kernel_rfl) rfl 27 (.tmp 12) (.tmp 59) rfl hX (by simp [go_sem]) (by simp [go_sem]) (by rw [gArr_size]; rfl) (by rw [gArr_size]; kernel_rfl) (gArr_one _) ?_
            intro v20 v21 bv20 sS hX_ stv21
            refine ⟨⟨stv21.box sS.1 n_Q_X, stv21.box sS.2 n_O_X⟩, ?_⟩
            simp only [Act.put]
            replace hR := hR.after bv20
            replace hY := hY.after bv20
            replace hO := hO.after bv20
            replace hQ := hQ.after bv20
            replace hX := hX.after bv20
            replace hB := hB.trans (bv20.mono hS)
            replace hS := Nat.le_trans hS bv20.size
            clear bv20
            replace hR := stv21.box hR n_R_X
            replace hY := stv21.box hY n_Y_X
            replace hO := stv21.box hO n_O_X
            replace hQ := stv21.box hQ n_Q_X
            replace hB := stv21.below w.heap.size w lX hB
            replace hS := Nat.le_trans hS (Nat.le_of_eq stv21.size.symm)
            clear hX stv21 sS
            have hX := hX_
            clear hX_
            refine wpU_val 16 hKS rfl (by kernel_rfl) (by kernel_rfl) (by kernel_rfl) rfl (fun _ _ _ _ h => h) (.bool cc) (fun w' h => by simp [go_sem]) ?_
            simp only [Act.put, List.setIfInBounds_toArray, List.set_cons_zero, List.set_cons_succ]
            refine wpU_done (by kernel_rfl) ?_
            intro v22 bv22 sS
            clear hKS sS
            replace hR := hR.after bv22
            replace hY := hY.after bv22
            replace hO := hO.after bv22
            replace hQ := hQ.after bv22
            replace hX := hX.after bv22
            replace hB := hB.trans (bv22.mono hS)
            replace hS := Nat.le_trans hS bv22.size
            clear bv22
            have fin : Box v22 gX 27 (gArr x2.at) ∧ Box v22 w.heap.size 29 (#[.int .u64 0, .int .u64 0, .int .u64 0, .int .u64 0, .int .u64 0, .int .u64 0, .int .u64 0, .int .u64 0, .int .u64 0, .int .u64 0, .int .u64 0, .int .u64 0, .int .u64 0, .int .u64 0, .int .u64 0, .int .u64 0, .int .u64 0, .int .u64 0, .int .u64 0, .int .u64 0]) ∧ Box v22 gY 27 (gArr y.at) ∧ Box v22 gO 27 (gArr (ofL 1).at) ∧ w.heap.size ≤ gX ∧ gX ≠ w.heap.size ∧ w.heap.size ≠ gX ∧ gX ≠ gY ∧ gY ≠ gX ∧ gX ≠ gO ∧ gO ≠ gX ∧ Below w.heap.size w v22 ∧ w.heap.size ≤ v22.heap.size := ⟨hX, hR, hY, hO, lX, n_X_R, n_R_X, n_X_Y, n_Y_X, n_X_O, n_O_X, hB, hS⟩
            clear hX hR hY hO hQ hB hS
            go_wp2_with fail
            go_meet
            case rel => exact ⟨rfl, _, _, rfl, HX2.out, fin⟩
        · intro v14 bv14 sS
          replace hR := hR.after bv14
          replace hY := hY.after bv14
          replace hO := hO.after bv14
          replace hQ := hQ.after bv14
          replace hB := hB.trans (bv14.mono hS)
          replace hS := Nat.le_trans hS bv14.size
          clear bv14
          refine wp_alloc_new 27 rfl #[.int .u64 0, .int .u64 0, .int .u64 0, .int .u64 0, .int .u64 0] (by intro w; simp [go_sem]) ?_
          intro gX v15 hX lX bv15
          refine ⟨hKS _ _ sS bv15, ?_⟩
          have n_R_X := hR.before lX
          have n_X_R := hR.behind lX
          have n_Y_X := hY.before lX
          have n_X_Y := hY.behind lX
          have n_O_X := hO.before lX
          have n_X_O := hO.behind lX
          have n_Q_X := hQ.before lX
          have n_X_Q := hQ.behind lX
          replace lX := Nat.le_trans hS lX
          replace sS := hKS _ _ sS bv15
          simp only [Act.put, List.setIfInBounds_toArray, List.set_cons_zero, List.set_cons_succ]
          replace hR := hR.after bv15
          replace hY := hY.after bv15
          replace hO := hO.after bv15
          replace hQ := hQ.after bv15
          replace hB := hB.trans (bv15.mono hS)
          replace hS := Nat.le_trans hS bv15.size
          clear bv15
          refine wpU_one 8 rfl (by kernel_rfl) rfl ?_
          intro v16 bv16 sS
          replace hR := hR.after bv16
          replace hY := hY.after bv16
          replace hO := hO.after bv16
          replace hQ := hQ.after bv16
          replace hX := hX.after bv16
          replace hB := hB.trans (bv16.mono hS)
          replace hS := Nat.le_trans hS bv16.size
          clear bv16
          refine wp_callR 34 #[.agg (gArr ((dd.mul y2).add (ofL 1)).at)] (by simp [go_sem]) _ (inv_fi _ _ _ (elA (elM HD.out HE2.out) el_one)) ?_
          rintro e v17 ⟨i, rfl, hi, bv17⟩
          refine ⟨_, rfl, hKS _ _ sS bv17, ?_⟩
          replace sS := hKS _ _ sS bv17
          simp only [Act.put, List.setIfInBounds_toArray, List.set_cons_zero, List.set_cons_succ]
          replace hR := hR.after bv17
          replace hY := hY.after bv17
          replace hO := hO.after bv17
          replace hQ := hQ.after bv17
          replace hX := hX.after bv17
          replace hB := hB.trans (bv17.mono hS)
          replace hS := Nat.le_trans hS bv17.size
          clear bv17
          have HI := Lib.hid hi
          clear hi
          refine wpU_call 9 hKS rfl (by kernel_rfl) (by kernel_rfl) (by kernel_rfl) rfl (fun _ _ _ _ h => h) 30 #[.agg (gArr y3.at), .agg (gArr i.at)] (fun w => by simp [go_sem]) _ (mul_el HE3.out HI.out) ?_
          simp only [Act.put, List.setIfInBounds_toArray, List.set_cons_zero, List.set_cons_succ]
          have HX5 : Hid (El (y3.mul i) (xx r)) := Lib.hid (by rw [xx_def]; exact elM HE3.out HI.out)
          refine wpU_one 10 rfl (by kernel_rfl) rfl ?_
          intro v18 bv18 sS
          replace hR := hR.after bv18
          replace hY := hY.after bv18
          replace hO := hO.after bv18
          replace hQ := hQ.after bv18
          replace hX := hX.after bv18
          replace hB := hB.trans (bv18.mono hS)
          replace hS := Nat.le_trans hS bv18.size
          clear bv18
          refine wp_callR 35 #[.agg (gArr (y3.mul i).at)] (by simp [go_sem]) _ (HROOT.out _ _ HX5.out) ?_
          rintro e v19 ⟨x2, rfl, hr2, bv19⟩
          refine ⟨_, rfl, hKS _ _ sS bv19, ?_⟩
          replace sS := hKS _ _ sS bv19
          simp only [Act.put, List.setIfInBounds_toArray, List.set_cons_zero, List.set_cons_succ]
          replace hR := hR.after bv19
          replace hY := hY.after bv19
          replace hO := hO.after bv19
          replace hQ := hQ.after bv19
          replace hX := hX.after bv19
          replace hB := hB.trans (bv19.mono hS)
          replace hS := Nat.le_trans hS bv19.size
          clear bv19
          have HX2 := Lib.hid hr2
          clear hr2
          refine wpU_val 11 hKS rfl (by kernel_rfl) (by kernel_rfl) (by kernel_rfl) rfl (fun _ _ _ _ h => h) (.tuple #[.agg (gArr x2.at), .bool cc]) (fun w' h => by simp [go_sem]) ?_
          simp only [Act.put, List.setIfInBounds_toArray, List.set_cons_zero, List.set_cons_succ]
          refine wpU_val 12 hKS rfl (by kernel_rfl) (by kernel_rfl) (by kernel_rfl) rfl (fun _ _ _ _ h => h) (.agg (gArr x2.at)) (fun w' h => by simp [go_sem]) ?_
          simp only [Act.put, List.setIfInBounds_toArray, List.set_cons_zero, List.set_cons_succ]
          refine wpU_val 13 hKS rfl (by kernel_rfl) (by kernel_rfl) (by kernel_rfl) rfl (fun _ _ _ _ h => h) (.bool cc) (fun w' h => by simp [go_sem]) ?_
          simp only [Act.put, List.setIfInBounds_toArray, List.set_cons_zero, List.set_cons_succ]
          refine wpU_store_box (cells := gArr x2.at) 15 rfl (by kernel_rfl) rfl 27 (.tmp 12) (.tmp 59) rfl hX (by simp [go_sem]) (by simp [go_sem]) (by rw [gArr_size]; rfl) (by rw [gArr_size]; kernel_rfl) (gArr_one _) ?_
          intro v20 v21 bv20 sS hX_ stv21
          refine ⟨⟨stv21.box sS.1 n_Q_X, stv21.box sS.2 n_O_X⟩, ?_⟩
          simp only [Act.put]
          replace hR := hR.after bv20
          replace hY := hY.after bv20
          replace hO := hO.after bv20
          replace hQ := hQ.after bv20
          replace hX := hX.after bv20
          replace hB := hB.trans (bv20.mono hS)
          replace hS := Nat.le_trans hS bv20.size
          clear bv20
          replace hR := stv21.box hR n_R_X
          replace hY := stv21.box hY n_Y_X
          replace hO := stv21.box hO n_O_X
          replace hQ := stv21.box hQ n_Q_X
          replace hB := stv21.below w.heap.size w lX hB
          replace hS := Nat.le_trans hS (Nat.le_of_eq stv21.size.symm)
          clear hX stv21 sS
          have hX := hX_
          clear hX_
          refine wpU_val 16 hKS rfl (by kernel_rfl) (by kernel_rfl) (by kernel_rfl) rfl (fun _ _ _ _ h => h) (.bool cc) (fun w' h => by simp [go_sem]) ?_
          simp only [Act.put, List.setIfInBounds_toArray, List.set_cons_zero, List.set_cons_succ]
          refine wpU_done (by kernel_rfl) ?_
          intro v22 bv22 sS
          clear hKS sS
          replace hR := hR.after bv22
          replace hY := hY.after bv22
          replace hO := hO.after bv22
          replace hQ := hQ.after bv22
          replace hX := hX.after bv22
          replace hB := hB.trans (bv22.mono hS)
          replace hS := Nat.le_trans hS bv22.size
          clear bv22
          have fin : Box v22 gX 27 (gArr x2.at) ∧ Box v22 w.heap.size 29 (#[.int .u64 0, .int .u64 0, .int .u64 0, .int .u64 0, .int .u64 0, .int .u64 0, .int .u64 0, .int .u64 0, .int .u64 0, .int .u64 0, .int .u64 0, .int .u64 0, .int .u64 0, .int .u64 0, .int .u64 0, .int .u64 0, .int .u64 0, .int .u64 0, .int .u64 0, .int .u64 0]) ∧ Box v22 gY 27 (gArr y.at) ∧ Box v22 gO 27 (gArr (ofL 1).at) ∧ w.heap.size ≤ gX ∧ gX ≠ w.heap.size ∧ w.heap.size ≠ gX ∧ gX ≠ gY ∧ gY ≠ gX ∧ gX ≠ gO ∧ gO ≠ gX ∧ Below w.heap.size w v22 ∧ w.heap.size ≤ v22.heap.size := ⟨hX, hR, hY, hO, lX, n_X_R, n_R_X, n_X_Y, n_Y_X, n_X_O, n_O_X, hB, hS⟩
          clear hX hR hY hO hQ hB hS
          go_wp2_with fail
          go_meet
          case rel => exact ⟨rfl, _, _, rfl, HX2.out, fin⟩
      · intro v12 bv12 sS
        replace hR := hR.after bv12
        replace hY := hY.after bv12
        replace hO := hO.after bv12
        replace hQ := hQ.after bv12
        replace hB := hB.trans (bv12.mono hS)
        replace hS := Nat.le_trans hS bv12.size
        clear bv12
        refine wp_alloc_new 27 rfl #[.int .u64 0, .int .u64 0, .int .u64 0, .int .u64 0, .int .u64 0] (by intro w; simp [go_sem]) ?_
        intro gX v13 hX lX bv13
        refine ⟨hKS _ _ sS bv13, ?_⟩
        have n_R_X := hR.before lX
        have n_X_R := hR.behind lX
        have n_Y_X := hY.before lX
        have n_X_Y := hY.behind lX
        have n_O_X := hO.before lX
        have n_X_O := hO.behind lX
        have n_Q_X := hQ.before lX
        have n_X_Q := hQ.behind lX
        replace lX := Nat.le_trans hS lX
        replace sS := hKS _ _ sS bv13
        simp only [Act.put, List.setIfInBounds_toArray, List.set_cons_zero, List.set_cons_succ]
        replace hR := hR.after bv13
        replace hY := hY.after bv13
        replace hO := hO.after bv13
        replace hQ := hQ.after bv13
        replace hB := hB.trans (bv13.mono hS)
        replace hS := Nat.le_trans hS bv13.size
        clear bv13
        refine wpU_one 3 rfl (by kernel_rfl) rfl ?_
        intro v14 bv14 sS
        replace hR := hR.after bv14
        replace hY := hY.after bv14
        replace hO := hO.after bv14
        replace hQ := hQ.after bv14
        replace hX := hX.after bv14
        replace hB := hB.trans (bv14.mono hS)
        replace hS := Nat.le_trans hS bv14.size
        clear bv14
        refine wp_callR 32 #[] (by simp [go_sem]) _ (curve_any _) ?_
        rintro e v15 ⟨dd, rfl, hz, bv15⟩
        refine ⟨_, rfl, hKS _ _ sS bv15, ?_⟩
        replace sS := hKS _ _ sS bv15
        simp only [Act.put, List.setIfInBounds_toArray, List.set_cons_zero, List.set_cons_succ]
        replace hR := hR.after bv15
        replace hY := hY.after bv15
        replace hO := hO.after bv15
        replace hQ := hQ.after bv15
        replace hX := hX.after bv15
        replace hB := hB.trans (bv15.mono hS)
        replace hS := Nat.le_trans hS bv15.size
        clear bv15
        have HD := Lib.hid hz
        clear hz
        refine wpU_call 5 hKS rfl (by kernel_rfl) (by kernel_rfl) (by kernel_rfl) rfl (fun _ _ _ _ h => h) 30 #[.agg (gArr dd.at), .agg (gArr y2.at)] (fun w => by simp [go_sem]) _ (mul_el HD.out HE2.out) ?_
        simp only [Act.put, List.setIfInBounds_toArray, List.set_cons_zero, List.set_cons_succ]
        refine wpU_call 7 hKS rfl (by kernel_rfl) (by kernel_rfl) (by kernel_rfl) rfl (fun _ _ _ _ h => h) 33 #[.agg (gArr (dd.mul y2).at), .agg (gArr (ofL 1).at)] (fun w => by simp [go_sem]) _ (add_el (elM HD.out HE2.out) el_one) ?_
        simp only [Act.put, List.setIfInBounds_toArray, List.set_cons_zero, List.set_cons_succ]
        refine wpU_one 8 rfl (by kernel_rfl) rfl ?_
        intro v16 bv16 sS
        replace hR := hR.after bv16
        replace hY := hY.after bv16
        replace hO := hO.after bv16
        replace hQ := hQ.after bv16
        replace hX := hX.after bv16
        replace hB := hB.trans (bv16.mono hS)
        replace hS := Nat.le_trans hS bv16.size
        clear bv16
        refine wp_callR 34 #[.agg (gArr ((dd.mul y2).add (ofL 1)).at)] (by simp [go_sem]) _ (inv_fi _ _ _ (elA (elM HD.out HE2.out) el_one)) ?_
        rintro e v17 ⟨i, rfl, hi, bv17⟩
        refine ⟨_, rfl, hKS _ _ sS bv17, ?_⟩
        replace sS := hKS _ _ sS bv17
        simp only [Act.put, List.setIfInBounds_toArray, List.set_cons_zero, List.set_cons_succ]
        replace hR := hR.after bv17
        replace hY := hY.after bv17
        replace hO := hO.after bv17
        replace hQ := hQ.after bv17
        replace hX := hX.after bv17
        replace hB := hB.trans (bv17.mono hS)
        replace hS := Nat.le_trans hS bv17.size
        clear bv17
        have HI := Lib.hid hi
        clear hi
        refine wpU_call 9 hKS rfl (by kernel_rfl) (by kernel_rfl) (by kernel_rfl) rfl (fun _ _ _ _ h => h) 30 #[.agg (gArr y3.at), .agg (gArr i.at)] (fun w => by simp [go_sem]) _ (mul_el HE3.out HI.out) ?_
        simp only [Act.put, List.setIfInBounds_toArray, List.set_cons_zero, List.set_cons_succ]
        have HX5 : Hid (El (y3.mul i) (xx r)) := Lib.hid (by rw [xx_def]; exact elM HE3.out HI.out)
        refine wpU_one 10 rfl (by kernel_rfl) rfl ?_
        intro v18 bv18 sS
        replace hR := hR.after bv18
        replace hY := hY.after bv18
        replace hO := hO.after bv18
        replace hQ := hQ.after bv18
        replace hX := hX.after bv18
        replace hB := hB.trans (bv18.mono hS)
        replace hS := Nat.le_trans hS bv18.size
        clear bv18
        refine wp_callR 35 #[.agg (gArr (y3.mul i).at)] (by simp [go_sem]) _ (HROOT.out _ _ HX5.out) ?_
        rintro e v19 ⟨x2, rfl, hr2, bv19⟩
        refine ⟨_, rfl, hKS _ _ sS bv19, ?_⟩
        replace sS := hKS _ _ sS bv19
        simp only [Act.put, List.setIfInBounds_toArray, List.set_cons_zero, List.set_cons_succ]
        replace hR := hR.after bv19
        replace hY := hY.after bv19
        replace hO := hO.after bv19
        replace hQ := hQ.after bv19
        replace hX := hX.after bv19
        replace hB := hB.trans (bv19.mono hS)
        replace hS := Nat.le_trans hS bv19.size
        clear bv19
        have HX2 := Lib.hid hr2
        clear hr2
        refine wpU_val 11 hKS rfl (by kernel_rfl) (by kernel_rfl) (by kernel_rfl) rfl (fun _ _ _ _ h => h) (.tuple #[.agg (gArr x2.at), .bool cc]) (fun w' h => by simp [go_sem]) ?_
        simp only [Act.put, List.setIfInBounds_toArray, List.set_cons_zero, List.set_cons_succ]
        refine wpU_val 12 hKS rfl (by kernel_rfl) (by kernel_rfl) (by kernel_rfl) rfl (fun _ _ _ _ h => h) (.agg (gArr x2.at)) (fun w' h => by simp [go_sem]) ?_
        simp only [Act.put, List.setIfInBounds_toArray, List.set_cons_zero, List.set_cons_succ]
        refine wpU_val 13 hKS rfl (by kernel_rfl) (by kernel_rfl) (by kernel_rfl) rfl (fun _ _ _ _ h => h) (.bool cc) (fun w' h => by simp [go_sem]) ?_
        simp only [Act.put, List.setIfInBounds_toArray, List.set_cons_zero, List.set_cons_succ]
        refine wpU_store_box (cells := gArr x2.at) 15 rfl (by kernel_rfl) rfl 27 (.tmp 12) (.tmp 59) rfl hX (by simp [go_sem]) (by simp [go_sem]) (by rw [gArr_size]; rfl) (by rw [gArr_size]; kernel_rfl) (gArr_one _) ?_
        intro v20 v21 bv20 sS hX_ stv21
        refine ⟨⟨stv21.box sS.1 n_Q_X, stv21.box sS.2 n_O_X⟩, ?_⟩
        simp only [Act.put]
        replace hR := hR.after bv20
        replace hY := hY.after bv20
        replace hO := hO.after bv20
        replace hQ := hQ.after bv20
        replace hX := hX.after bv20
        replace hB := hB.trans (bv20.mono hS)
        replace hS := Nat.le_trans hS bv20.size
        clear bv20
        replace hR := stv21.box hR n_R_X
        replace hY := stv21.box hY n_Y_X
        replace hO := stv21.box hO n_O_X
        replace hQ := stv21.box hQ n_Q_X
        replace hB := stv21.below w.heap.size w lX hB
        replace hS := Nat.le_trans hS (Nat.le_of_eq stv21.size.symm)
        clear hX stv21 sS
        have hX := hX_
        clear hX_
        refine wpU_val 16 hKS rfl (by kernel_rfl) (by kernel_rfl) (by kernel_rfl) rfl (fun _ _ _ _ h => h) (.bool cc) (fun w' h => by simp [go_sem]) ?_
        simp only [Act.put, List.setIfInBounds_toArray, List.set_cons_zero, List.set_cons_succ]
        refine wpU_done (by kernel_rfl) ?_
        intro v22 bv22 sS
        clear hKS sS
        replace hR := hR.after bv22
        replace hY := hY.after bv22
        replace hO := hO.after bv22
        replace hQ := hQ.after bv22
        replace hX := hX.after bv22
        replace hB := hB.trans (bv22.mono hS)
        replace hS := Nat.le_trans hS bv22.size
        clear bv22
        have fin : Box v22 gX 27 (gArr x2.at) ∧ Box v22 w.heap.size 29 (#[.int .u64 0, .int .u64 0, .int .u64 0, .int .u64 0, .int .u64 0, .int .u64 0, .int .u64 0, .int .u64 0, .int .u64 0, .int .u64 0, .int .u64 0, .int .u64 0, .int .u64 0, .int .u64 0, .int .u64 0, .int .u64 0, .int .u64 0, .int .u64 0, .int .u64 0, .int .u64 0]) ∧ Box v22 gY 27 (gArr y.at) ∧ Box v22 gO 27 (gArr (ofL 1).at) ∧ w.heap.size ≤ gX ∧ gX ≠ w.heap.size ∧ w.heap.size ≠ gX ∧ gX ≠ gY ∧ gY ≠ gX ∧ gX ≠ gO ∧ gO ≠ gX ∧ Below w.heap.size w v22 ∧ w.heap.size ≤ v22.heap.size := ⟨hX, hR, hY, hO, lX, n_X_R, n_R_X, n_X_Y, n_Y_X, n_X_O, n_O_X, hB, hS⟩
        clear hX hR hY hO hQ hB hS
        go_wp2_with fail
        go_meet
        case rel => exact ⟨rfl, _, _, rfl, HX2.out, fin⟩
    case rest =>
      obtain ⟨rfl, gX, x2, rfl, hx2, hcut⟩ := hcut
      clear hR hY hO hQ hB hS
      obtain ⟨hX, hR, hY, hO, lX, n_X_R, n_R_X, n_X_Y, n_Y_X, n_X_O, n_O_X, hB, hS⟩ := hcut
      have HX2 := Lib.hid hx2
      clear hx2
      have HSM := Lib.hid (fun w : World => same_el HX2.out el_zero w)
      cases cc with
      | false =>
        have HNO := Lib.hid (getOk_b (q := q) HCC.out.symm)
        go_upto_region 13 with fail
        go_step
        refine wpList_made 10 wc.heap.size wc (Below.refl _ _) ?_
        simp only [List.take_succ_cons, List.take_zero, List.drop_succ_cons, List.drop_zero]
        refine wpQ_run rfl (.bool false) (fun w hw => by simp [go_sem]) ?_
        simp only [Act.put, List.setIfInBounds_toArray, List.set_cons_zero, List.set_cons_succ]
        refine wpQ_run rfl (.bool true) (fun w hw => by simp [go_sem]) ?_
        simp only [Act.put, List.setIfInBounds_toArray, List.set_cons_zero, List.set_cons_succ]
        refine wpQ_run rfl (.bool true) (fun w hw => by simp [go_sem]) ?_
        simp only [Act.put, List.setIfInBounds_toArray, List.set_cons_zero, List.set_cons_succ]
        refine wpQ_skip rfl ?_
        simp only [Act.put, List.setIfInBounds_toArray, List.set_cons_zero, List.set_cons_succ]
        refine wpQ_skip rfl ?_
        simp only [Act.put, List.setIfInBounds_toArray, List.set_cons_zero, List.set_cons_succ]
        refine wpQ_skip rfl ?_
        simp only [Act.put, List.setIfInBounds_toArray, List.set_cons_zero, List.set_cons_succ]
        refine wpQ_skip rfl ?_
        simp only [Act.put, List.setIfInBounds_toArray, List.set_cons_zero, List.set_cons_succ]
        refine wpQ_skip rfl ?_
        simp only [Act.put, List.setIfInBounds_toArray, List.set_cons_zero, List.set_cons_succ]
        refine wpQ_skip rfl ?_
        simp only [Act.put, List.setIfInBounds_toArray, List.set_cons_zero, List.set_cons_succ]
        refine wpQ_run rfl (.bool true) (fun w hw => by simp [go_sem]) ?_
        simp only [Act.put, List.setIfInBounds_toArray, List.set_cons_zero, List.set_cons_succ]
        intro v12 bv12
        replace hR := hR.after bv12
        replace hY := hY.after bv12
        replace hO := hO.after bv12
        replace hX := hX.after bv12
        replace hB := hB.trans (bv12.mono hS)
        replace hS := Nat.le_trans hS bv12.size
        clear bv12
        go_upto_region 14 with fail
        go_step
        refine wpList_value rfl (.agg (pArr L5.zero L5.zero L5.zero L5.zero)) (by simp [go_sem, ptz]) ?_
        simp only [Act.put, List.setIfInBounds_toArray, List.set_cons_zero, List.set_cons_succ]
        refine wpList_store_box (cells := pArr L5.zero L5.zero L5.zero L5.zero) rfl 29 (.tmp 2) (.tmp 71) rfl hR (by rfl) (by rfl) (by rw [pArr_size L5.zero L5.zero L5.zero L5.zero]; rfl) (by rw [pArr_size L5.zero L5.zero L5.zero L5.zero]; kernel_rfl) (pArr_one _ _ _ _) ?_
        intro v13 hR_ stv13
        simp only [Act.put]
        replace hY := stv13.box hY n_Y_R
        replace hO := stv13.box hO n_O_R
        replace hX := stv13.box hX n_X_R
        replace hB := stv13.below w.heap.size w lR hB
        replace hS := Nat.le_trans hS (Nat.le_of_eq stv13.size.symm)
        clear hR stv13
        have hR := hR_
        clear hR_
        refine wpList_value rfl (.int .i64 8) (by simp [go_sem]) ?_
        simp only [Act.put, List.setIfInBounds_toArray, List.set_cons_zero, List.set_cons_succ]
        obtain ⟨G, hG⟩ : ∃ G, G = pArr L5.zero L5.zero L5.zero L5.zero := ⟨_, rfl⟩
        rw [← hG] at hR
        have HGS := Lib.hid (show G.size = 20 by rw [hG]; exact pArr_size _ _ _ _)
        have HG := Lib.hid hG
        clear hG hY hO hX
        go_wp2_with fail
        exact bodyPost_ret (v := .tuple #[.agg G, .int .i64 8]) (box_result2 (p := 2) (q := 3) rfl _ _ (by rfl) hR Try.underlying29 rfl (by rw [HGS.out]; kernel_rfl)) rfl ⟨_, _, _, _, by rw [HG.out, HNO.out]; rfl, (fun h => by rw [HNO.out] at h; cases h), hB⟩
      | true =>
        cases odd with
        | false =>
          obtain rfl : q = 0 := by have h1 := HQL.out; have h2 := HODD.out; have h3 : ¬ q = 1 := (by intro h; rw [h] at h2; cases h2); omega
          have HYES := Lib.hid (getOk_e HRP.out HCC.out.symm)
          go_upto_region 13 with fail
          go_step
          refine wpList_made 10 wc.heap.size wc (Below.refl _ _) ?_
          simp only [List.take_succ_cons, List.take_zero, List.drop_succ_cons, List.drop_zero]
          refine wpQ_run rfl (.bool true) (fun w hw => by simp [go_sem]) ?_
          simp only [Act.put, List.setIfInBounds_toArray, List.set_cons_zero, List.set_cons_succ]
          refine wpQ_run rfl (.bool false) (fun w hw => by simp [go_sem]) ?_
          simp only [Act.put, List.setIfInBounds_toArray, List.set_cons_zero, List.set_cons_succ]
          refine wpQ_run rfl (.bool false) (fun w hw => by simp [go_sem]) ?_
          simp only [Act.put, List.setIfInBounds_toArray, List.set_cons_zero, List.set_cons_succ]
          refine wpQ_run rfl (.bool false) (fun w hw => by simp [go_sem]) ?_
          simp only [Act.put, List.setIfInBounds_toArray, List.set_cons_zero, List.set_cons_succ]
          refine wpQ_run rfl (.bool false) (fun w hw => by simp [go_sem]) ?_
          simp only [Act.put, List.setIfInBounds_toArray, List.set_cons_zero, List.set_cons_succ]
          refine wpQ_skip rfl ?_
          simp only [Act.put, List.setIfInBounds_toArray, List.set_cons_zero, List.set_cons_succ]
          refine wpQ_skip rfl ?_
          simp only [Act.put, List.setIfInBounds_toArray, List.set_cons_zero, List.set_cons_succ]
          refine wpQ_skip rfl ?_
          simp only [Act.put, List.setIfInBounds_toArray, List.set_cons_zero, List.set_cons_succ]
          refine wpQ_run rfl (.bool false) (fun w hw => by simp [go_sem]) ?_
          simp only [Act.put, List.setIfInBounds_toArray, List.set_cons_zero, List.set_cons_succ]
          refine wpQ_run rfl (.bool false) (fun w hw => by simp [go_sem]) ?_
          simp only [Act.put, List.setIfInBounds_toArray, List.set_cons_zero, List.set_cons_succ]
          intro v12 bv12
          replace hR := hR.after bv12
          replace hY := hY.after bv12
          replace hO := hO.after bv12
          replace hX := hX.after bv12
          replace hB := hB.trans (bv12.mono hS)
          replace hS := Nat.le_trans hS bv12.size
          clear bv12
          have HMT := Lib.hid (fun w : World => mul_el HX2.out HY.out w)
          have HET := Lib.hid (elM HX2.out HY.out)
          generalize x2.mul y = t at *
          go_upto_region 17 with fail
          have hKS : Keeps (fun w' => Box w' gX 27 (gArr x2.at) ∧ Box w' gY 27 (gArr y.at) ∧ Box w' gO 27 (gArr (ofL 1).at)) := fun w w' h b => ⟨h.1.after b, h.2.1.after b, h.2.2.after b⟩
          refine wp_region_U (w := v12) (fun w' => Box w' gX 27 (gArr x2.at) ∧ Box w' gY 27 (gArr y.at) ∧ Box w' gO 27 (gArr (ofL 1).at)) rfl (⟨hX.drew, hY.drew, hO.drew⟩) ?_
          replace hR := hR.drew
          replace hY := hY.drew
          replace hO := hO.drew
          replace hX := hX.drew
          replace hB := hB.drew
          replace hS := Nat.le_trans hS (show v12.heap.size ≤ v12.drew.heap.size from Nat.le_refl _)
          refine wpU_val 0 hKS rfl (by kernel_rfl) (by kernel_rfl) (by kernel_rfl) rfl (fun _ _ _ _ h => h) (.agg (gArr x2.at)) (fun w' h => run_load_box rfl h.1 (by simp [go_sem]) Try.underlying27 rfl (by rw [gArr_size]; kernel_rfl)) ?_
          simp only [Act.put, List.setIfInBounds_toArray, List.set_cons_zero, List.set_cons_succ]
          refine wpU_val 1 hKS rfl (by kernel_rfl) (by kernel_rfl) (by kernel_rfl) rfl (fun _ _ _ _ h => h) (.agg (gArr y.at)) (fun w' h => run_load_box rfl h.2.1 (by simp [go_sem]) Try.underlying27 rfl (by rw [gArr_size]; kernel_rfl)) ?_
          simp only [Act.put, List.setIfInBounds_toArray, List.set_cons_zero, List.set_cons_succ]
          refine wpU_val 2 hKS rfl (by kernel_rfl) (by kernel_rfl) (by kernel_rfl) rfl (fun _ _ _ _ h => h) (.agg (gArr (ofL 1).at)) (fun w' h => run_load_box rfl h.2.2 (by simp [go_sem]) Try.underlying27 rfl (by rw [gArr_size]; kernel_rfl)) ?_
          simp only [Act.put, List.setIfInBounds_toArray, List.set_cons_zero, List.set_cons_succ]
          refine wpU_val 3 hKS rfl (by kernel_rfl) (by kernel_rfl) (by kernel_rfl) rfl (fun _ _ _ _ h => h) (.agg (gArr x2.at)) (fun w' h => run_load_box rfl h.1 (by simp [go_sem]) Try.underlying27 rfl (by rw [gArr_size]; kernel_rfl)) ?_
          simp only [Act.put, List.setIfInBounds_toArray, List.set_cons_zero, List.set_cons_succ]
          refine wpU_val 4 hKS rfl (by kernel_rfl) (by kernel_rfl) (by kernel_rfl) rfl (fun _ _ _ _ h => h) (.agg (gArr y.at)) (fun w' h => run_load_box rfl h.2.1 (by simp [go_sem]) Try.underlying27 rfl (by rw [gArr_size]; kernel_rfl)) ?_
          simp only [Act.put, List.setIfInBounds_toArray, List.set_cons_zero, List.set_cons_succ]
          refine wpU_call 5 hKS rfl (by kernel_rfl) (by kernel_rfl) (by kernel_rfl) rfl (fun _ _ _ _ h => h) 30 #[.agg (gArr x2.at), .agg (gArr y.at)] (fun w => by simp [go_sem]) _ (HMT.out) ?_
          simp only [Act.put, List.setIfInBounds_toArray, List.set_cons_zero, List.set_cons_succ]
          refine wpU_val 6 hKS rfl (by kernel_rfl) (by kernel_rfl) (by kernel_rfl) rfl (fun _ _ _ _ h => h) (.agg (pArr x2 y (ofL 1) t)) (fun w' h => run_build rfl _ (by simp [go_sem]) _ (build_pt x2 y (ofL 1) t _)) ?_
          simp only [Act.put, List.setIfInBounds_toArray, List.set_cons_zero, List.set_cons_succ]
          refine wpU_store_box (cells := pArr x2 y (ofL 1) t) 7 rfl (by kernel_rfl) rfl 29 (.tmp 2) (.tmp 82) rfl hR (by simp [go_sem]) (by simp [go_sem]) (by rw [pArr_size x2 y (ofL 1) t]; rfl) (by rw [pArr_size x2 y (ofL 1) t]; kernel_rfl) (pArr_one _ _ _ _) ?_
          intro v13 v14 bv13 sS hR_ stv14
          refine ⟨⟨stv14.box sS.1 n_X_R, stv14.box sS.2.1 n_Y_R, stv14.box sS.2.2 n_O_R⟩, ?_⟩
          simp only [Act.put]
          replace hR := hR.after bv13
          replace hY := hY.after bv13
          replace hO := hO.after bv13
          replace hX := hX.after bv13
          replace hB := hB.trans (bv13.mono hS)
          replace hS := Nat.le_trans hS bv13.size
          clear bv13
          replace hY := stv14.box hY n_Y_R
          replace hO := stv14.box hO n_O_R
          replace hX := stv14.box hX n_X_R
          replace hB := stv14.below w.heap.size w lR hB
          replace hS := Nat.le_trans hS (Nat.le_of_eq stv14.size.symm)
          clear hR stv14 sS
          have hR := hR_
          clear hR_
          refine wpU_val 8 hKS rfl (by kernel_rfl) (by kernel_rfl) (by kernel_rfl) rfl (fun _ _ _ _ h => h) (.int .i64 0) (fun w' h => by simp [go_sem]) ?_
          simp only [Act.put, List.setIfInBounds_toArray, List.set_cons_zero, List.set_cons_succ]
          refine wpU_done (by kernel_rfl) ?_
          intro v15 bv15 sS
          clear hKS sS
          replace hR := hR.after bv15
          replace hY := hY.after bv15
          replace hO := hO.after bv15
          replace hX := hX.after bv15
          replace hB := hB.trans (bv15.mono hS)
          replace hS := Nat.le_trans hS bv15.size
          clear bv15
          obtain ⟨G, hG⟩ : ∃ G, G = pArr x2 y (ofL 1) t := ⟨_, rfl⟩
          rw [← hG] at hR
          have HGS := Lib.hid (show G.size = 20 by rw [hG]; exact pArr_size _ _ _ _)
          have HG := Lib.hid hG
          clear hG hX hY hO
          go_wp2_with fail
          exact bodyPost_ret (v := .tuple #[.agg G, .int .i64 0]) (box_result2 (p := 2) (q := 3) rfl _ _ (by rfl) hR Try.underlying29 rfl (by rw [HGS.out]; kernel_rfl)) rfl ⟨x2, y, ofL 1, t, by rw [HG.out, HYES.out]; rfl, fun _ => ⟨by unfold getX; rw [← HRN.out]; exact HX2.out, HY.out, el_one, by have h := HET.out; unfold getX; rw [← HRN.out]; exact h⟩, hB⟩
        | true =>
          obtain rfl : q = 1 := by have h2 := HODD.out; simpa using h2.symm
          obtain ⟨s0, hs0⟩ : ∃ s0, s0 = (rn == 0) := ⟨_, rfl⟩
          rw [← hs0] at HSM
          have HS0 := Lib.hid hs0
          clear hs0
          cases s0 with
          | true =>
            have HNO := Lib.hid (getOk_c (r := r) (by rw [← HRN.out]; exact HS0.out.symm))
            go_upto_region 13 with fail
            go_step
            refine wpList_made 10 wc.heap.size wc (Below.refl _ _) ?_
            simp only [List.take_succ_cons, List.take_zero, List.drop_succ_cons, List.drop_zero]
            refine wpQ_run rfl (.bool true) (fun w hw => by simp [go_sem]) ?_
            simp only [Act.put, List.setIfInBounds_toArray, List.set_cons_zero, List.set_cons_succ]
            refine wpQ_run rfl (.bool false) (fun w hw => by simp [go_sem]) ?_
            simp only [Act.put, List.setIfInBounds_toArray, List.set_cons_zero, List.set_cons_succ]
            refine wpQ_run rfl (.bool false) (fun w hw => by simp [go_sem]) ?_
            simp only [Act.put, List.setIfInBounds_toArray, List.set_cons_zero, List.set_cons_succ]
            refine wpQ_run rfl (.bool true) (fun w hw => by simp [go_sem]) ?_
            simp only [Act.put, List.setIfInBounds_toArray, List.set_cons_zero, List.set_cons_succ]
            refine wpQ_run rfl (.bool true) (fun w hw => by simp [go_sem]) ?_
            simp only [Act.put, List.setIfInBounds_toArray, List.set_cons_zero, List.set_cons_succ]
            refine wpQ_load_box rfl 27 _ rfl hX (by rfl) hX.lt Try.underlying27 rfl (by rw [gArr_size]; kernel_rfl) ?_
            simp only [Act.put, List.setIfInBounds_toArray, List.set_cons_zero, List.set_cons_succ]
            refine wpQ_run rfl (.agg (gArr L5.zero.at)) (fun w hw => by simp [go_sem]; rfl) ?_
            simp only [Act.put, List.setIfInBounds_toArray, List.set_cons_zero, List.set_cons_succ]
            refine wpQ_call rfl 36 #[.agg (gArr x2.at), .agg (gArr L5.zero.at)] (fun w => by simp [go_sem]) _ (Nat.le_refl _) (HSM.out) ?_
            simp only [Act.put, List.setIfInBounds_toArray, List.set_cons_zero, List.set_cons_succ]
            refine wpQ_run rfl (.bool true) (fun w hw => by simp [go_sem]) ?_
            simp only [Act.put, List.setIfInBounds_toArray, List.set_cons_zero, List.set_cons_succ]
            refine wpQ_run rfl (.bool true) (fun w hw => by simp [go_sem]) ?_
            simp only [Act.put, List.setIfInBounds_toArray, List.set_cons_zero, List.set_cons_succ]
            intro v12 bv12
            replace hR := hR.after bv12
            replace hY := hY.after bv12
            replace hO := hO.after bv12
            replace hX := hX.after bv12
            replace hB := hB.trans (bv12.mono hS)
            replace hS := Nat.le_trans hS bv12.size
            clear bv12
            go_upto_region 14 with fail
            go_step
            refine wpList_value rfl (.agg (pArr L5.zero L5.zero L5.zero L5.zero)) (by simp [go_sem, ptz]) ?_
            simp only [Act.put, List.setIfInBounds_toArray, List.set_cons_zero, List.set_cons_succ]
            refine wpList_store_box (cells := pArr L5.zero L5.zero L5.zero L5.zero) rfl 29 (.tmp 2) (.tmp 71) rfl hR (by rfl) (by rfl) (by rw [pArr_size L5.zero L5.zero L5.zero L5.zero]; rfl) (by rw [pArr_size L5.zero L5.zero L5.zero L5.zero]; kernel_rfl) (pArr_one _ _ _ _) ?_
            intro v13 hR_ stv13
            simp only [Act.put]
            replace hY := stv13.box hY n_Y_R
            replace hO := stv13.box hO n_O_R
            replace hX := stv13.box hX n_X_R
            replace hB := stv13.below w.heap.size w lR hB
            replace hS := Nat.le_trans hS (Nat.le_of_eq stv13.size.symm)
            clear hR stv13
            have hR := hR_
            clear hR_
            refine wpList_value rfl (.int .i64 8) (by simp [go_sem]) ?_
            simp only [Act.put, List.setIfInBounds_toArray, List.set_cons_zero, List.set_cons_succ]
            obtain ⟨G, hG⟩ : ∃ G, G = pArr L5.zero L5.zero L5.zero L5.zero := ⟨_, rfl⟩
            rw [← hG] at hR
            have HGS := Lib.hid (show G.size = 20 by rw [hG]; exact pArr_size _ _ _ _)
            have HG := Lib.hid hG
            clear hG hY hO hX
            go_wp2_with fail
            exact bodyPost_ret (v := .tuple #[.agg G, .int .i64 8]) (box_result2 (p := 2) (q := 3) rfl _ _ (by rfl) hR Try.underlying29 rfl (by rw [HGS.out]; kernel_rfl)) rfl ⟨_, _, _, _, by rw [HG.out, HNO.out]; rfl, (fun h => by rw [HNO.out] at h; cases h), hB⟩
          | false =>
            have HYES := Lib.hid (getOk_d HRP.out HCC.out.symm (by rw [← HRN.out]; exact HS0.out.symm))
            go_upto_region 13 with fail
            go_step
            refine wpList_made 10 wc.heap.size wc (Below.refl _ _) ?_
            simp only [List.take_succ_cons, List.take_zero, List.drop_succ_cons, List.drop_zero]
            refine wpQ_run rfl (.bool true) (fun w hw => by simp [go_sem]) ?_
            simp only [Act.put, List.setIfInBounds_toArray, List.set_cons_zero, List.set_cons_succ]
            refine wpQ_run rfl (.bool false) (fun w hw => by simp [go_sem]) ?_
            simp only [Act.put, List.setIfInBounds_toArray, List.set_cons_zero, List.set_cons_succ]
            refine wpQ_run rfl (.bool false) (fun w hw => by simp [go_sem]) ?_
            simp only [Act.put, List.setIfInBounds_toArray, List.set_cons_zero, List.set_cons_succ]
            refine wpQ_run rfl (.bool true) (fun w hw => by simp [go_sem]) ?_
            simp only [Act.put, List.setIfInBounds_toArray, List.set_cons_zero, List.set_cons_succ]
            refine wpQ_run rfl (.bool true) (fun w hw => by simp [go_sem]) ?_
            simp only [Act.put, List.setIfInBounds_toArray, List.set_cons_zero, List.set_cons_succ]
            refine wpQ_load_box rfl 27 _ rfl hX (by rfl) hX.lt Try.underlying27 rfl (by rw [gArr_size]; kernel_rfl) ?_
            simp only [Act.put, List.setIfInBounds_toArray, List.set_cons_zero, List.set_cons_succ]
            refine wpQ_run rfl (.agg (gArr L5.zero.at)) (fun w hw => by simp [go_sem]; rfl) ?_
            simp only [Act.put, List.setIfInBounds_toArray, List.set_cons_zero, List.set_cons_succ]
            refine wpQ_call rfl 36 #[.agg (gArr x2.at), .agg (gArr L5.zero.at)] (fun w => by simp [go_sem]) _ (Nat.le_refl _) (HSM.out) ?_
            simp only [Act.put, List.setIfInBounds_toArray, List.set_cons_zero, List.set_cons_succ]
            refine wpQ_run rfl (.bool false) (fun w hw => by simp [go_sem]) ?_
            simp only [Act.put, List.setIfInBounds_toArray, List.set_cons_zero, List.set_cons_succ]
            refine wpQ_run rfl (.bool false) (fun w hw => by simp [go_sem]) ?_
            simp only [Act.put, List.setIfInBounds_toArray, List.set_cons_zero, List.set_cons_succ]
            intro v12 bv12
            replace hR := hR.after bv12
            replace hY := hY.after bv12
            replace hO := hO.after bv12
            replace hX := hX.after bv12
            replace hB := hB.trans (bv12.mono hS)
            replace hS := Nat.le_trans hS bv12.size
            clear bv12
            have HSX := Lib.hid (fun w : World => sub_el el_zero HX2.out w)
            have HX3 := Lib.hid (elS el_zero HX2.out)
            go_upto_region 16 with fail
            go_step
            refine wpList_value rfl (.agg (gArr L5.zero.at)) (by simp [go_sem]; rfl) ?_
            simp only [Act.put, List.setIfInBounds_toArray, List.set_cons_zero, List.set_cons_succ]
            refine wpList_load_box rfl 27 _ rfl hX (by rfl) Try.underlying27 rfl (by rw [gArr_size]; kernel_rfl) ?_
            simp only [Act.put, List.setIfInBounds_toArray, List.set_cons_zero, List.set_cons_succ]
            refine wpList_made_call rfl 31 #[.agg (gArr L5.zero.at), .agg (gArr x2.at)] (by simp [go_sem]) _ (HSX.out _) ?_
            intro v13 bv13
            simp only [Act.put, List.setIfInBounds_toArray, List.set_cons_zero, List.set_cons_succ]
            replace hR := hR.after bv13
            replace hY := hY.after bv13
            replace hO := hO.after bv13
            replace hX := hX.after bv13
            replace hB := hB.trans (bv13.mono hS)
            replace hS := Nat.le_trans hS bv13.size
            clear bv13
            generalize L5.zero.sub x2 = x3 at *
            refine wpList_store_box (cells := gArr x3.at) rfl 27 (.tmp 12) (.tmp 75) rfl hX (by rfl) (by rfl) (by rw [gArr_size]; rfl) (by rw [gArr_size]; kernel_rfl) (gArr_one _) ?_
            intro v14 hX_ stv14
            simp only [Act.put]
            replace hR := stv14.box hR n_R_X
            replace hY := stv14.box hY n_Y_X
            replace hO := stv14.box hO n_O_X
            replace hB := stv14.below w.heap.size w lX hB
            replace hS := Nat.le_trans hS (Nat.le_of_eq stv14.size.symm)
            clear hX stv14
            have hX := hX_
            clear hX_
            have HMT := Lib.hid (fun w : World => mul_el HX3.out HY.out w)
            have HET := Lib.hid (elM HX3.out HY.out)
            generalize x3.mul y = t at *
            go_upto_region 17 with fail
            have hKS : Keeps (fun w' => Box w' gX 27 (gArr x3.at) ∧ Box w' gY 27 (gArr y.at) ∧ Box w' gO 27 (gArr (ofL 1).at)) := fun w w' h b => ⟨h.1.after b, h.2.1.after b, h.2.2.after b⟩
            refine wp_region_U (w := v14) (fun w' => Box w' gX 27 (gArr x3.at) ∧ Box w' gY 27 (gArr y.at) ∧ Box w' gO 27 (gArr (ofL 1).at)) rfl (⟨hX.drew, hY.drew, hO.drew⟩) ?_
            replace hR := hR.drew
            replace hY := hY.drew
            replace hO := hO.drew
            replace hX := hX.drew
            replace hB := hB.drew
            replace hS := Nat.le_trans hS (show v14.heap.size ≤ v14.drew.heap.size from Nat.le_refl _)
            refine wpU_val 0 hKS rfl (by kernel_rfl) (by kernel_rfl) (by kernel_rfl) rfl (fun _ _ _ _ h => h) (.agg (gArr x3.at)) (fun w' h => run_load_box rfl h.1 (by simp [go_sem]) Try.underlying27 rfl (by rw [gArr_size]; kernel_rfl)) ?_
            simp only [Act.put, List.setIfInBounds_toArray, List.set_cons_zero, List.set_cons_succ]
            refine wpU_val 1 hKS rfl (by kernel_rfl) (by kernel_rfl) (by kernel_rfl) rfl (fun _ _ _ _ h => h) (.agg (gArr y.at)) (fun w' h => run_load_box rfl h.2.1 (by simp [go_sem]) Try.underlying27 rfl (by rw [gArr_size]; kernel_rfl)) ?_
            simp only [Act.put, List.setIfInBounds_toArray, List.set_cons_zero, List.set_cons_succ]
            refine wpU_val 2 hKS rfl (by kernel_rfl) (by kernel_rfl) (by kernel_rfl) rfl (fun _ _ _ _ h => h) (.agg (gArr (ofL 1).at)) (fun w' h => run_load_box rfl h.2.2 (by simp [go_sem]) Try.underlying27 rfl (by rw [gArr_size]; kernel_rfl)) ?_
            simp only [Act.put, List.setIfInBounds_toArray, List.set_cons_zero, List.set_cons_succ]
            refine wpU_val 3 hKS rfl (by kernel_rfl) (by kernel_rfl) (by kernel_rfl) rfl (fun _ _ _ _ h => h) (.agg (gArr x3.at)) (fun w' h => run_load_box rfl h.1 (by simp [go_sem]) Try.underlying27 rfl (by rw [gArr_size]; kernel_rfl)) ?_
            simp only [Act.put, List.setIfInBounds_toArray, List.set_cons_zero, List.set_cons_succ]
            refine wpU_val 4 hKS rfl (by kernel_rfl) (by kernel_rfl) (by kernel_rfl) rfl (fun _ _ _ _ h => h) (.agg (gArr y.at)) (fun w' h => run_load_box rfl h.2.1 (by simp [go_sem]) Try.underlying27 rfl (by rw [gArr_size]; kernel_rfl)) ?_
            simp only [Act.put, List.setIfInBounds_toArray, List.set_cons_zero, List.set_cons_succ]
            refine wpU_call 5 hKS rfl (by kernel_rfl) (by kernel_rfl) (by kernel_rfl) rfl (fun _ _ _ _ h => h) 30 #[.agg (gArr x3.at), .agg (gArr y.at)] (fun w => by simp [go_sem]) _ (HMT.out) ?_
            simp only [Act.put, List.setIfInBounds_toArray, List.set_cons_zero, List.set_cons_succ]
            refine wpU_val 6 hKS rfl (by kernel_rfl) (by kernel_rfl) (by kernel_rfl) rfl (fun _ _ _ _ h => h) (.agg (pArr x3 y (ofL 1) t)) (fun w' h => run_build rfl _ (by simp [go_sem]) _ (build_pt x3 y (ofL 1) t _)) ?_
            simp only [Act.put, List.setIfInBounds_toArray, List.set_cons_zero, List.set_cons_succ]
            refine wpU_store_box (cells := pArr x3 y (ofL 1) t) 7 rfl (by kernel_rfl) rfl 29 (.tmp 2) (.tmp 82) rfl hR (by simp [go_sem]) (by simp [go_sem]) (by rw [pArr_size x3 y (ofL 1) t]; rfl) (by rw [pArr_size x3 y (ofL 1) t]; kernel_rfl) (pArr_one _ _ _ _) ?_
            intro v15 v16 bv15 sS hR_ stv16
            refine ⟨⟨stv16.box sS.1 n_X_R, stv16.box sS.2.1 n_Y_R, stv16.box sS.2.2 n_O_R⟩, ?_⟩
            simp only [Act.put]
            replace hR := hR.after bv15
            replace hY := hY.after bv15
            replace hO := hO.after bv15
            replace hX := hX.after bv15
            replace hB := hB.trans (bv15.mono hS)
            replace hS := Nat.le_trans hS bv15.size
            clear bv15
            replace hY := stv16.box hY n_Y_R
            replace hO := stv16.box hO n_O_R
            replace hX := stv16.box hX n_X_R
            replace hB := stv16.below w.heap.size w lR hB
            replace hS := Nat.le_trans hS (Nat.le_of_eq stv16.size.symm)
            clear hR stv16 sS
            have hR := hR_
            clear hR_
            refine wpU_val 8 hKS rfl (by kernel_rfl) (by kernel_rfl) (by kernel_rfl) rfl (fun _ _ _ _ h => h) (.int .i64 0) (fun w' h => by simp [go_sem]) ?_
            simp only [Act.put, List.setIfInBounds_toArray, List.set_cons_zero, List.set_cons_succ]
            refine wpU_done (by kernel_rfl) ?_
            intro v17 bv17 sS
            clear hKS sS
            replace hR := hR.after bv17
            replace hY := hY.after bv17
            replace hO := hO.after bv17
            replace hX := hX.after bv17
            replace hB := hB.trans (bv17.mono hS)
            replace hS := Nat.le_trans hS bv17.size
            clear bv17
            obtain ⟨G, hG⟩ : ∃ G, G = pArr x3 y (ofL 1) t := ⟨_, rfl⟩
            rw [← hG] at hR
            have HGS := Lib.hid (show G.size = 20 by rw [hG]; exact pArr_size _ _ _ _)
            have HG := Lib.hid hG
            clear hG hX hY hO
            go_wp2_with fail
            exact bodyPost_ret (v := .tuple #[.agg G, .int .i64 0]) (box_result2 (p := 2) (q := 3) rfl _ _ (by rfl) hR Try.underlying29 rfl (by rw [HGS.out]; kernel_rfl)) rfl ⟨x3, y, ofL 1, t, by rw [HG.out, HYES.out]; rfl, fun _ => ⟨by unfold getX; rw [← HRN.out]; exact HX3.out, HY.out, el_one, by have h := HET.out; unfold getX; rw [← HRN.out]; exact h⟩, hB⟩
end Go.Proofs.Ytpkoniebbkkmjaa

/- Points: the document's Get. -/
namespace Go.Proofs.Ytpkoniebbkkmjaa
open Go.RowKit
attribute [local irreducible] fi dN xx rtN rtOk pw

theorem wpList_run {P : Program} {ops : Array Oper} {rest : List Oper} {o : Oper} {a : Act} {w : World} {Q : Exit → Act → World → Prop} (hgd : Region.wanted o (yielded ops a.tmps) = true) (v : Value) (w' : World)
    (hr : (execOp a.eval o).run P w = .ok (.value v) w') (h : wpList P ops Q rest (a.put o.dst v) w') : wpList P ops Q (o :: rest) a w :=
  wpList_want hgd fun _ hK => by
    unfold Oper.wp
    rw [hr]
    exact hK _ _ h
theorem eql_nought (rn : Nat) (h : rn < P25) (w : World) : (Op.equalIn 10000 34 (.agg (fArr (dig rn))) (.agg (Array.replicate 16 (Value.int .u64 0)))).run Try.prog w = .ok (rn == 0) w := by
  rw [dig_nought]
  exact eql_fArr rn 0 (p_lt h) (by decide) w
theorem bif_lt2 (b : Bool) (x y p : Nat) (hx : x < p) (hy : y < p) : (bif b then x else y) < p := by cases b <;> assumption
theorem bif_lt (p r : Nat) (ok : Bool) (h : r < p) : (bif ok then (bif r % 2 == 1 then p - r else r) else 0) < p := by
  refine bif_lt2 _ _ _ _ ?_ (by omega)
  by_cases ho : r % 2 = 1
  · rw [ho]
    simp only [beq_self_eq_true, cond_true]
    omega
  · rw [show (r % 2 == 1) = false by simp [ho], cond_false]
    exact h
theorem rtN_lt (u : Nat) : rtN u < P25 := by
  unfold rtN
  exact bif_lt P25 (rt1 u) (rtOk u) (rt1_lt u)
theorem getX_lt (r q : Nat) : getX r q < P25 := by
  unfold getX
  exact bif_lt2 _ _ _ _ (fs_lt _ _) (rtN_lt _)
theorem ge_top (c q : Nat) (hc : c < 128) (hq : q < 2) : decide ((128 : Int) ≤ ((c + 128 * q : Nat) : Int)) = (q == 1) := by
  rcases Nat.lt_or_ge q 1 with h | h
  · obtain rfl : q = 0 := by omega
    simp
    omega
  · obtain rfl : q = 1 := by omega
    simp
    omega
def RetGetR (r q : Nat) (w : World) (e : Ending) (w' : World) : Prop := ∃ u v n : Nat, e = .returned (.tuple #[.agg (qArr u v n), .bool (getOk r q)]) ∧ (getOk r q = true → u = getX r q ∧ v = r ∧ n = 1) ∧ u < P25 ∧ v < P25 ∧ n < P25 ∧ Below w.heap.size w w'
theorem one_P : 1 < P25 := by unfold P25; omega
set_option maxRecDepth 100000 in
set_option maxHeartbeats 20000000 in
theorem refGet_pt (r q : Nat) (hr : r < 2 ^ 255) (hq : q < 2) (a : Option Addr) (cap : Nat) (w : World) (hs : Sl w a 32 cap (leBytes (r + 2 ^ 255 * q) 32)) : Calls Try.prog 11 #[.slice a 32 cap] w (RetGetR r q w) := by
  obtain ⟨i0, hi, hz0, hz1, hz2⟩ := info_parts infoU8
  have HRL := Lib.hid hr
  have HQL := Lib.hid hq
  have hr8 : r < 256 ^ 32 := by simp only [Nat.reducePow] at *; omega
  obtain ⟨y, hy⟩ : ∃ y, y = r % P25 := ⟨_, rfl⟩
  obtain ⟨ye, hye⟩ : ∃ ye : Bool, ye = (r % P25 == r) := ⟨_, rfl⟩
  have HRAW : Hid (∀ (w : World) (a : Option Addr) (cap : Nat), Sl w a 32 cap (leBytes r 32) → Calls Try.prog 37 #[.slice a 32 cap] w fun e w' => e = .returned (.tuple #[.agg (fArr (dig y)), .bool ye]) ∧ Below w.heap.size w w') := by
    refine Lib.hid fun w a cap h => ?_
    have := refRaw_any (leBytes r 32) a cap w h
    rw [leNat_bytes 32 r hr8, ← hye, ← hy] at this
    exact this
  have HYY := Lib.hid hy
  have HYE := Lib.hid hye
  have HOF := Lib.hid (fun w : World => refOf_any 1 w (by decide))
  clear hr hq hr8 hy hye
  go_enter Try.func11, Try.ntmps11
  go_upto_region 1 with fail
  have hR : Box (w.alloc (.cells (Array.replicate 48 (Value.int .u64 0)) 36)) w.heap.size 36 (Array.replicate 48 (Value.int .u64 0)) := (Box.new w 36 (Array.replicate 48 (Value.int .u64 0)))
  have lR : w.heap.size ≤ w.heap.size := by omega
  have hB : Below w.heap.size w (w.alloc (.cells (Array.replicate 48 (Value.int .u64 0)) 36)) := ((Below.refl w.heap.size w).alloc (by simp; try omega) (.cells (Array.replicate 48 (Value.int .u64 0)) 36))
  have hS := hB.size
  change Code.wp _ _ _ _ (w.alloc (.cells (Array.replicate 48 (Value.int .u64 0)) 36))
  generalize (w.alloc (.cells (Array.replicate 48 (Value.int .u64 0)) 36)) = v0 at *
  have hsl := hs.after (show Below w.heap.size w v0 from hB)
  have hsz : w.heap.size + 1 ≤ v0.heap.size := hR.lt
  go_step
  refine wpList_run rfl (.slice (some ⟨v0.heap.size, 0, none⟩) 0 0) (v0.alloc (.cells #[] 5)) (by simp [go_sem]) ?_
  simp only [Act.put, List.setIfInBounds_toArray, List.set_cons_zero, List.set_cons_succ]
  refine wpList_value rfl (.slice a 32 cap) (by simp [go_sem]) ?_
  simp only [Act.put, List.setIfInBounds_toArray, List.set_cons_zero, List.set_cons_succ]
  have hown0 : (v0.alloc (.cells #[] 5)).ownsRow v0.heap.size 5 1 (.slice (some ⟨v0.heap.size, 0, none⟩) 0 0) 0 (Lib.byteCells []) := World.ownsRow_lit (base := v0.heap.size) (size := 1) (e := 5) v0 #[] 0 (Nat.le_refl _) (Nat.zero_le _) rfl
  have hb0 : Below v0.heap.size v0 (v0.alloc (.cells #[] 5)) := (Below.refl _ _).alloc (Nat.le_refl _) _
  refine wpList_append_sl rfl (.tmp 10) (.tmp 11) 22 rfl v0.heap.size 5 i0 Try.underlying22 hi hz0 hz1 hz2 (.slice (some ⟨v0.heap.size, 0, none⟩) 0 0) 0 [] (by simp [go_sem]) hown0 a 32 cap (leBytes (r + 2 ^ 255 * q) 32) (by simp [go_sem]) (hsl.after hb0) (by omega) (by simp) ?_
  intro s v1 hown hg
  simp only [Act.put, List.setIfInBounds_toArray, List.set_cons_zero, List.set_cons_succ]
  have bv1 : Below v0.heap.size v0 v1 := hb0.grown hg (by simp) (fun j hj => (hown0.lt j hj).1)
  clear hg hown0 hb0 hsl
  replace hR := hR.after bv1
  replace hB := hB.trans (bv1.mono hS)
  replace hS := Nat.le_trans hS bv1.size
  clear bv1
  obtain ⟨gO, co, cur, rfl, lO, hO, hcap, hmax, hcur⟩ := own_open (n := r + 2 ^ 255 * q) hown
  clear hown
  have n_R_O : w.heap.size ≠ gO := by omega
  have n_O_R : gO ≠ w.heap.size := by omega
  replace lO : w.heap.size ≤ gO := by omega
  clear hsz
  refine wpList_value rfl (.slice (some ⟨gO, 0, none⟩) 32 co) (by simp [go_sem]) ?_
  simp only [Act.put, List.setIfInBounds_toArray, List.set_cons_zero, List.set_cons_succ]
  have x31 := hO.cell 31 (hcur 31 (by omega))
  rw [top_byte r q HRL.out HQL.out] at x31
  have f31 := hO.frozen 31
  have hc := top_low r HRL.out
  have hset := cells_top (q := q) (p := 0) HRL.out (by omega) hcur
  simp only [Nat.mul_zero, Nat.add_zero] at hset
  have m1 := ge_top (r / 256 ^ 31) q hc HQL.out
  have m2 : (((r / 256 ^ 31 + 128 * q : Nat) : Int)).tmod 128 = ((r / 256 ^ 31 : Nat) : Int) := by rw [Int.tmod_eq_emod_of_nonneg (by omega)]; omega
  generalize r / 256 ^ 31 = c at *
  obtain ⟨tp, htp⟩ : ∃ tp, tp = c + 128 * q := ⟨_, rfl⟩
  rw [← htp] at m1 m2 x31
  obtain ⟨odd, hodd⟩ : ∃ odd, odd = (q == 1) := ⟨_, rfl⟩
  rw [← hodd] at m1
  have HODD := Lib.hid hodd
  have HSET := Lib.hid hset
  have w8 : IntKind.u8.wrap (c : Int) = (c : Int) := by rw [IntKind.wrap_u8]; omega
  clear hset htp hodd hcur
  go_upto_region 2 with fail
  go_step
  refine wpList_value rfl (.slice (some ⟨gO, 0, none⟩) 32 co) (by simp [go_sem]) ?_
  simp only [Act.put, List.setIfInBounds_toArray, List.set_cons_zero, List.set_cons_succ]
  refine wpList_value rfl (.pointer (some ⟨gO, 31, none⟩)) (by simp [go_sem]) ?_
  simp only [Act.put, List.setIfInBounds_toArray, List.set_cons_zero, List.set_cons_succ]
  refine wpList_value rfl (.int .u8 (tp : Nat)) (by simp [go_sem, x31]) ?_
  simp only [Act.put, List.setIfInBounds_toArray, List.set_cons_zero, List.set_cons_succ]
  refine wpList_value rfl (.bool odd) (by simp [go_sem, m1]) ?_
  simp only [Act.put, List.setIfInBounds_toArray, List.set_cons_zero, List.set_cons_succ]
  refine wpList_value rfl (.bool odd) (by simp [go_sem]) ?_
  simp only [Act.put, List.setIfInBounds_toArray, List.set_cons_zero, List.set_cons_succ]
  clear m1
  go_upto_region 4 with fail
  have hO2 := hO.set 31 (.int .u8 (c : Nat))
  have hR2 := hR.far ⟨gO, 31, none⟩ (.int .u8 (c : Nat)) n_R_O
  have hB2 := hB.setCell (p := ⟨gO, 31, none⟩) lO (.int .u8 (c : Nat))
  have hS2 := hB2.size
  clear hO hR hB hS x31 f31 m2 w8 hc
  change Code.wp _ _ _ _ (Go.World.setCell _ ⟨gO, 31, none⟩ (.int .u8 (c : Nat)))
  generalize Go.World.setCell _ ⟨gO, 31, none⟩ (.int .u8 (c : Nat)) = vq at *
  have hO := hO2
  have hR := hR2
  have hB := hB2
  have hS := hS2
  clear hO2 hR2 hB2 hS2
  go_step
  refine wpList_value rfl (.slice (some ⟨gO, 0, none⟩) 32 co) (by simp [go_sem]) ?_
  simp only [Act.put, List.setIfInBounds_toArray, List.set_cons_zero, List.set_cons_succ]
  refine wpList_made_call rfl 37 #[.slice (some ⟨gO, 0, none⟩) 32 co] (by simp [go_sem]) _ (HRAW.out _ _ _ (sl_cells hO hcap hmax HSET.out)) ?_
  intro v1 bv1
  simp only [Act.put, List.setIfInBounds_toArray, List.set_cons_zero, List.set_cons_succ]
  replace hR := hR.after bv1
  replace hO := hO.after bv1
  replace hB := hB.trans (bv1.mono hS)
  replace hS := Nat.le_trans hS bv1.size
  clear bv1
  refine wpList_value rfl (.tuple #[.agg (fArr (dig y)), .bool ye]) (by simp [go_sem]) ?_
  simp only [Act.put, List.setIfInBounds_toArray, List.set_cons_zero, List.set_cons_succ]
  refine wpList_value rfl (.agg (fArr (dig y))) (by simp [go_sem]) ?_
  simp only [Act.put, List.setIfInBounds_toArray, List.set_cons_zero, List.set_cons_succ]
  refine wpList_value rfl (.bool ye) (by simp [go_sem]) ?_
  simp only [Act.put, List.setIfInBounds_toArray, List.set_cons_zero, List.set_cons_succ]
  clear hO HSET hcap hmax
  refine wpList_new rfl 34 rfl (Array.replicate 16 (Value.int .u64 0)) (by intro w; simp [go_sem]; rfl) ?_
  intro gY v2 hY lY bv2
  simp only [Act.put, List.setIfInBounds_toArray, List.set_cons_zero, List.set_cons_succ]
  have n_R_Y := hR.before lY
  have n_Y_R := hR.behind lY
  replace lY := Nat.le_trans hS lY
  replace hR := hR.after bv2
  replace hB := hB.trans (bv2.mono hS)
  replace hS := Nat.le_trans hS bv2.size
  clear bv2
  refine wpList_store_box (cells := fArr (dig y)) rfl 34 (.tmp 6) (.tmp 26) rfl hY (by rfl) (by rfl) (by rw [fArr_size]; rfl) (by rw [fArr_size]; kernel_rfl) (fArr_one _) ?_
  intro v3 hY_ stv3
  simp only [Act.put]
  replace hR := stv3.box hR n_R_Y
  replace hB := stv3.below w.heap.size w lY hB
  replace hS := Nat.le_trans hS (Nat.le_of_eq stv3.size.symm)
  clear hY stv3
  have hY := hY_
  clear hY_
  refine wpList_value rfl (.bool ye) (by simp [go_sem]) ?_
  simp only [Act.put, List.setIfInBounds_toArray, List.set_cons_zero, List.set_cons_succ]
  by_cases hrp : r < P25
  case neg =>
    obtain rfl : ye = false := by rw [HYE.out]; have := Nat.mod_lt r p_pos; simp; omega
    have HNO := Lib.hid (getOk_a (q := q) hrp)
    clear hrp
    go_upto_region 6 with fail
    go_step
    refine wpList_value rfl (.agg (qArr 0 0 0)) (run_build rfl #[] (by simp) _ (build_p0 _)) ?_
    simp only [Act.put, List.setIfInBounds_toArray, List.set_cons_zero, List.set_cons_succ]
    refine wpList_store_box (cells := qArr 0 0 0) rfl 36 (.tmp 2) (.tmp 30) rfl hR (by rfl) (by rfl) (by rw [qArr_size 0 0 0]; rfl) (by rw [qArr_size 0 0 0]; kernel_rfl) (qArr_one _ _ _) ?_
    intro v4 hR_ stv4
    simp only [Act.put]
    replace hY := stv4.box hY n_Y_R
    replace hB := stv4.below w.heap.size w lR hB
    replace hS := Nat.le_trans hS (Nat.le_of_eq stv4.size.symm)
    clear hR stv4
    have hR := hR_
    clear hR_
    refine wpList_value rfl (.bool false) (by simp [go_sem]) ?_
    simp only [Act.put, List.setIfInBounds_toArray, List.set_cons_zero, List.set_cons_succ]
    obtain ⟨G, hG⟩ : ∃ G, G = qArr 0 0 0 := ⟨_, rfl⟩
    rw [← hG] at hR
    have HGS := Lib.hid (show G.size = 48 by rw [hG]; exact qArr_size 0 0 0)
    have HG := Lib.hid hG
    clear hG hY
    go_wp2_with fail
    exact bodyPost_ret (v := .tuple #[.agg G, .bool false]) (box_result2 (p := 2) (q := 3) rfl _ _ (by rfl) hR Try.underlying36 rfl (by rw [HGS.out]; kernel_rfl)) rfl ⟨0, 0, 0, by rw [HG.out, HNO.out], (fun h => by rw [HNO.out] at h; cases h), p_pos, p_pos, p_pos, hB⟩
  case pos =>
    obtain rfl : ye = true := by rw [HYE.out, Nat.mod_eq_of_lt hrp]; simp
    obtain rfl : y = r := by rw [HYY.out, Nat.mod_eq_of_lt hrp]
    have HRP := Lib.hid hrp
    have HRT := Lib.hid (refRoot7_any y hrp)
    have hrl := rtN_lt (xx y)
    have HNG := Lib.hid (rNeg (rtN (xx y)) hrl)
    have HEQ := Lib.hid (eql_nought (rtN (xx y)) hrl)
    clear hrp
    obtain ⟨cc, hcc⟩ : ∃ cc, cc = rtOk (xx y) := ⟨_, rfl⟩
    obtain ⟨rn, hrn⟩ : ∃ rn, rn = rtN (xx y) := ⟨_, rfl⟩
    rw [← hcc, ← hrn] at HRT
    rw [← hrn] at HNG HEQ hrl
    have HCC := Lib.hid hcc
    have HRN := Lib.hid hrn
    have HRL2 := Lib.hid hrl
    clear hcc hrn hrl
    go_upto_region 7 with fail
    go_step
    refine wpList_load_box rfl 34 _ rfl hY (by rfl) Try.underlying34 rfl (by rw [fArr_size]; kernel_rfl) ?_
    simp only [Act.put, List.setIfInBounds_toArray, List.set_cons_zero, List.set_cons_succ]
    refine wpList_made_call rfl 38 #[.agg (fArr (dig y))] (by simp [go_sem]) _ (HRT.out _) ?_
    intro v4 bv4
    simp only [Act.put, List.setIfInBounds_toArray, List.set_cons_zero, List.set_cons_succ]
    replace hR := hR.after bv4
    replace hY := hY.after bv4
    replace hB := hB.trans (bv4.mono hS)
    replace hS := Nat.le_trans hS bv4.size
    clear bv4
    refine wpList_value rfl (.tuple #[.agg (fArr (dig rn)), .bool cc]) (by simp [go_sem]) ?_
    simp only [Act.put, List.setIfInBounds_toArray, List.set_cons_zero, List.set_cons_succ]
    refine wpList_value rfl (.agg (fArr (dig rn))) (by simp [go_sem]) ?_
    simp only [Act.put, List.setIfInBounds_toArray, List.set_cons_zero, List.set_cons_succ]
    refine wpList_value rfl (.bool cc) (by simp [go_sem]) ?_
    simp only [Act.put, List.setIfInBounds_toArray, List.set_cons_zero, List.set_cons_succ]
    refine wpList_new rfl 34 rfl (Array.replicate 16 (Value.int .u64 0)) (by intro w; simp [go_sem]; rfl) ?_
    intro gX v5 hX lX bv5
    simp only [Act.put, List.setIfInBounds_toArray, List.set_cons_zero, List.set_cons_succ]
    have n_R_X := hR.before lX
    have n_X_R := hR.behind lX
    have n_Y_X := hY.before lX
    have n_X_Y := hY.behind lX
    replace lX := Nat.le_trans hS lX
    replace hR := hR.after bv5
    replace hY := hY.after bv5
    replace hB := hB.trans (bv5.mono hS)
    replace hS := Nat.le_trans hS bv5.size
    clear bv5
    refine wpList_store_box (cells := fArr (dig rn)) rfl 34 (.tmp 8) (.tmp 34) rfl hX (by rfl) (by rfl) (by rw [fArr_size]; rfl) (by rw [fArr_size]; kernel_rfl) (fArr_one _) ?_
    intro v6 hX_ stv6
    simp only [Act.put]
    replace hR := stv6.box hR n_R_X
    replace hY := stv6.box hY n_Y_X
    replace hB := stv6.below w.heap.size w lX hB
    replace hS := Nat.le_trans hS (Nat.le_of_eq stv6.size.symm)
    clear hX stv6
    have hX := hX_
    clear hX_
    refine wpList_value rfl (.bool cc) (by simp [go_sem]) ?_
    simp only [Act.put, List.setIfInBounds_toArray, List.set_cons_zero, List.set_cons_succ]
    cases cc with
    | false =>
      have HNO := Lib.hid (getOk_b (q := q) HCC.out.symm)
      go_upto_region 8 with fail
      go_step
      refine wpList_made 10 v6.heap.size v6 (Below.refl _ _) ?_
      simp only [List.take_succ_cons, List.take_zero, List.drop_succ_cons, List.drop_zero]
      refine wpQ_run rfl (.bool false) (fun w hw => by simp [go_sem]) ?_
      simp only [Act.put, List.setIfInBounds_toArray, List.set_cons_zero, List.set_cons_succ]
      refine wpQ_run rfl (.bool true) (fun w hw => by simp [go_sem]) ?_
      simp only [Act.put, List.setIfInBounds_toArray, List.set_cons_zero, List.set_cons_succ]
      refine wpQ_run rfl (.bool true) (fun w hw => by simp [go_sem]) ?_
      simp only [Act.put, List.setIfInBounds_toArray, List.set_cons_zero, List.set_cons_succ]
      refine wpQ_skip rfl ?_
      simp only [Act.put, List.setIfInBounds_toArray, List.set_cons_zero, List.set_cons_succ]
      refine wpQ_skip rfl ?_
      simp only [Act.put, List.setIfInBounds_toArray, List.set_cons_zero, List.set_cons_succ]
      refine wpQ_skip rfl ?_
      simp only [Act.put, List.setIfInBounds_toArray, List.set_cons_zero, List.set_cons_succ]
      refine wpQ_skip rfl ?_
      simp only [Act.put, List.setIfInBounds_toArray, List.set_cons_zero, List.set_cons_succ]
      refine wpQ_skip rfl ?_
      simp only [Act.put, List.setIfInBounds_toArray, List.set_cons_zero, List.set_cons_succ]
      refine wpQ_skip rfl ?_
      simp only [Act.put, List.setIfInBounds_toArray, List.set_cons_zero, List.set_cons_succ]
      refine wpQ_run rfl (.bool true) (fun w hw => by simp [go_sem]) ?_
      simp only [Act.put, List.setIfInBounds_toArray, List.set_cons_zero, List.set_cons_succ]
      intro v7 bv7
      replace hR := hR.after bv7
      replace hY := hY.after bv7
      replace hX := hX.after bv7
      replace hB := hB.trans (bv7.mono hS)
      replace hS := Nat.le_trans hS bv7.size
      clear bv7
      go_upto_region 9 with fail
      go_step
      refine wpList_value rfl (.agg (qArr 0 0 0)) (run_build rfl #[] (by simp) _ (build_p0 _)) ?_
      simp only [Act.put, List.setIfInBounds_toArray, List.set_cons_zero, List.set_cons_succ]
      refine wpList_store_box (cells := qArr 0 0 0) rfl 36 (.tmp 2) (.tmp 46) rfl hR (by rfl) (by rfl) (by rw [qArr_size 0 0 0]; rfl) (by rw [qArr_size 0 0 0]; kernel_rfl) (qArr_one _ _ _) ?_
      intro v8 hR_ stv8
      simp only [Act.put]
      replace hY := stv8.box hY n_Y_R
      replace hX := stv8.box hX n_X_R
      replace hB := stv8.below w.heap.size w lR hB
      replace hS := Nat.le_trans hS (Nat.le_of_eq stv8.size.symm)
      clear hR stv8
      have hR := hR_
      clear hR_
      refine wpList_value rfl (.bool false) (by simp [go_sem]) ?_
      simp only [Act.put, List.setIfInBounds_toArray, List.set_cons_zero, List.set_cons_succ]
      obtain ⟨G, hG⟩ : ∃ G, G = qArr 0 0 0 := ⟨_, rfl⟩
      rw [← hG] at hR
      have HGS := Lib.hid (show G.size = 48 by rw [hG]; exact qArr_size 0 0 0)
      have HG := Lib.hid hG
      clear hG hY hX
      go_wp2_with fail
      exact bodyPost_ret (v := .tuple #[.agg G, .bool false]) (box_result2 (p := 2) (q := 3) rfl _ _ (by rfl) hR Try.underlying36 rfl (by rw [HGS.out]; kernel_rfl)) rfl ⟨0, 0, 0, by rw [HG.out, HNO.out], (fun h => by rw [HNO.out] at h; cases h), p_pos, p_pos, p_pos, hB⟩
    | true =>
      cases odd with
      | false =>
        obtain rfl : q = 0 := by have h1 := HQL.out; have h2 := HODD.out; have h3 : ¬ q = 1 := (by intro h; rw [h] at h2; cases h2); omega
        have HYES := Lib.hid (getOk_e HRP.out HCC.out.symm)
        go_upto_region 8 with fail
        go_step
        refine wpList_made 10 v6.heap.size v6 (Below.refl _ _) ?_
        simp only [List.take_succ_cons, List.take_zero, List.drop_succ_cons, List.drop_zero]
        refine wpQ_run rfl (.bool true) (fun w hw => by simp [go_sem]) ?_
        simp only [Act.put, List.setIfInBounds_toArray, List.set_cons_zero, List.set_cons_succ]
        refine wpQ_run rfl (.bool false) (fun w hw => by simp [go_sem]) ?_
        simp only [Act.put, List.setIfInBounds_toArray, List.set_cons_zero, List.set_cons_succ]
        refine wpQ_run rfl (.bool false) (fun w hw => by simp [go_sem]) ?_
        simp only [Act.put, List.setIfInBounds_toArray, List.set_cons_zero, List.set_cons_succ]
        refine wpQ_run rfl (.bool false) (fun w hw => by simp [go_sem]) ?_
        simp only [Act.put, List.setIfInBounds_toArray, List.set_cons_zero, List.set_cons_succ]
        refine wpQ_run rfl (.bool false) (fun w hw => by simp [go_sem]) ?_
        simp only [Act.put, List.setIfInBounds_toArray, List.set_cons_zero, List.set_cons_succ]
        refine wpQ_skip rfl ?_
        simp only [Act.put, List.setIfInBounds_toArray, List.set_cons_zero, List.set_cons_succ]
        refine wpQ_skip rfl ?_
        simp only [Act.put, List.setIfInBounds_toArray, List.set_cons_zero, List.set_cons_succ]
        refine wpQ_skip rfl ?_
        simp only [Act.put, List.setIfInBounds_toArray, List.set_cons_zero, List.set_cons_succ]
        refine wpQ_run rfl (.bool false) (fun w hw => by simp [go_sem]) ?_
        simp only [Act.put, List.setIfInBounds_toArray, List.set_cons_zero, List.set_cons_succ]
        refine wpQ_run rfl (.bool false) (fun w hw => by simp [go_sem]) ?_
        simp only [Act.put, List.setIfInBounds_toArray, List.set_cons_zero, List.set_cons_succ]
        intro v7 bv7
        replace hR := hR.after bv7
        replace hY := hY.after bv7
        replace hX := hX.after bv7
        replace hB := hB.trans (bv7.mono hS)
        replace hS := Nat.le_trans hS bv7.size
        clear bv7
        go_upto_region 12 with fail
        have hKS : Keeps (fun w' => Box w' gX 34 (fArr (dig rn)) ∧ Box w' gY 34 (fArr (dig y))) := fun w w' h b => ⟨h.1.after b, h.2.after b⟩
        refine wp_region_U (w := v7) (fun w' => Box w' gX 34 (fArr (dig rn)) ∧ Box w' gY 34 (fArr (dig y))) rfl (⟨hX.drew, hY.drew⟩) ?_
        replace hR := hR.drew
        replace hY := hY.drew
        replace hX := hX.drew
        replace hB := hB.drew
        replace hS := Nat.le_trans hS (show v7.heap.size ≤ v7.drew.heap.size from Nat.le_refl _)
        refine wpU_val 0 hKS rfl (by kernel_rfl) (by kernel_rfl) (by kernel_rfl) rfl (fun _ _ _ _ h => h) (.agg (fArr (dig rn))) (fun w' h => run_load_box rfl h.1 (by simp [go_sem]) Try.underlying34 rfl (by rw [fArr_size]; kernel_rfl)) ?_
        simp only [Act.put, List.setIfInBounds_toArray, List.set_cons_zero, List.set_cons_succ]
        refine wpU_val 1 hKS rfl (by kernel_rfl) (by kernel_rfl) (by kernel_rfl) rfl (fun _ _ _ _ h => h) (.agg (fArr (dig y))) (fun w' h => run_load_box rfl h.2 (by simp [go_sem]) Try.underlying34 rfl (by rw [fArr_size]; kernel_rfl)) ?_
        simp only [Act.put, List.setIfInBounds_toArray, List.set_cons_zero, List.set_cons_succ]
        refine wpU_call 2 hKS rfl (by kernel_rfl) (by kernel_rfl) (by kernel_rfl) rfl (fun _ _ _ _ h => h) 40 #[.int .u64 1] (fun w => by simp [go_sem]) _ (HOF.out) ?_
        simp only [Act.put, List.setIfInBounds_toArray, List.set_cons_zero, List.set_cons_succ]
        refine wpU_val 3 hKS rfl (by kernel_rfl) (by kernel_rfl) (by kernel_rfl) rfl (fun _ _ _ _ h => h) (.agg (qArr rn y 1)) (fun w' h => run_build rfl _ (by simp [go_sem]) _ (build_p rn y 1 _)) ?_
        simp only [Act.put, List.setIfInBounds_toArray, List.set_cons_zero, List.set_cons_succ]
        refine wpU_store_box (cells := qArr rn y 1) 4 rfl (by kernel_rfl) rfl 36 (.tmp 2) (.tmp 53) rfl hR (by simp [go_sem]) (by simp [go_sem]) (by rw [qArr_size rn y 1]; rfl) (by rw [qArr_size rn y 1]; kernel_rfl) (qArr_one _ _ _) ?_
        intro v8 v9 bv8 sS hR_ stv9
        refine ⟨⟨stv9.box sS.1 n_X_R, stv9.box sS.2 n_Y_R⟩, ?_⟩
        simp only [Act.put]
        replace hR := hR.after bv8
        replace hY := hY.after bv8
        replace hX := hX.after bv8
        replace hB := hB.trans (bv8.mono hS)
        replace hS := Nat.le_trans hS bv8.size
        clear bv8
        replace hY := stv9.box hY n_Y_R
        replace hX := stv9.box hX n_X_R
        replace hB := stv9.below w.heap.size w lR hB
        replace hS := Nat.le_trans hS (Nat.le_of_eq stv9.size.symm)
        clear hR stv9 sS
        have hR := hR_
        clear hR_
        refine wpU_val 5 hKS rfl (by kernel_rfl) (by kernel_rfl) (by kernel_rfl) rfl (fun _ _ _ _ h => h) (.bool true) (fun w' h => by simp [go_sem]) ?_
        simp only [Act.put, List.setIfInBounds_toArray, List.set_cons_zero, List.set_cons_succ]
        refine wpU_done (by kernel_rfl) ?_
        intro v10 bv10 sS
        clear hKS sS
        replace hR := hR.after bv10
        replace hY := hY.after bv10
        replace hX := hX.after bv10
        replace hB := hB.trans (bv10.mono hS)
        replace hS := Nat.le_trans hS bv10.size
        clear bv10
        obtain ⟨G, hG⟩ : ∃ G, G = qArr rn y 1 := ⟨_, rfl⟩
        rw [← hG] at hR
        have HGS := Lib.hid (show G.size = 48 by rw [hG]; exact qArr_size rn y 1)
        have HG := Lib.hid hG
        clear hG hY hX
        go_wp2_with fail
        exact bodyPost_ret (v := .tuple #[.agg G, .bool true]) (box_result2 (p := 2) (q := 3) rfl _ _ (by rfl) hR Try.underlying36 rfl (by rw [HGS.out]; kernel_rfl)) rfl ⟨rn, y, 1, by rw [HG.out, HYES.out], (fun _ => ⟨by unfold getX; rw [← HRN.out]; rfl, rfl, rfl⟩), HRL2.out, HRP.out, one_P, hB⟩
      | true =>
        obtain rfl : q = 1 := by have h2 := HODD.out; simpa using h2.symm
        obtain ⟨s0, hs0⟩ : ∃ s0, s0 = (rn == 0) := ⟨_, rfl⟩
        rw [← hs0] at HEQ
        have HS0 := Lib.hid hs0
        clear hs0
        cases s0 with
        | true =>
          have HNO := Lib.hid (getOk_c (r := y) (by rw [← HRN.out]; exact HS0.out.symm))
          go_upto_region 8 with fail
          go_step
          refine wpList_made 10 v6.heap.size v6 (Below.refl _ _) ?_
          simp only [List.take_succ_cons, List.take_zero, List.drop_succ_cons, List.drop_zero]
          refine wpQ_run rfl (.bool true) (fun w hw => by simp [go_sem]) ?_
          simp only [Act.put, List.setIfInBounds_toArray, List.set_cons_zero, List.set_cons_succ]
          refine wpQ_run rfl (.bool false) (fun w hw => by simp [go_sem]) ?_
          simp only [Act.put, List.setIfInBounds_toArray, List.set_cons_zero, List.set_cons_succ]
          refine wpQ_run rfl (.bool false) (fun w hw => by simp [go_sem]) ?_
          simp only [Act.put, List.setIfInBounds_toArray, List.set_cons_zero, List.set_cons_succ]
          refine wpQ_run rfl (.bool true) (fun w hw => by simp [go_sem]) ?_
          simp only [Act.put, List.setIfInBounds_toArray, List.set_cons_zero, List.set_cons_succ]
          refine wpQ_run rfl (.bool true) (fun w hw => by simp [go_sem]) ?_
          simp only [Act.put, List.setIfInBounds_toArray, List.set_cons_zero, List.set_cons_succ]
          refine wpQ_load_box rfl 34 _ rfl hX (by rfl) hX.lt Try.underlying34 rfl (by rw [fArr_size]; kernel_rfl) ?_
          simp only [Act.put, List.setIfInBounds_toArray, List.set_cons_zero, List.set_cons_succ]
          refine wpQ_run rfl (.agg (Array.replicate 16 (Value.int .u64 0))) (fun w hw => by simp [go_sem]; rfl) ?_
          simp only [Act.put, List.setIfInBounds_toArray, List.set_cons_zero, List.set_cons_succ]
          refine wpQ_run rfl (.bool true) (fun w hw => by simp [go_sem, HEQ.out]) ?_
          simp only [Act.put, List.setIfInBounds_toArray, List.set_cons_zero, List.set_cons_succ]
          refine wpQ_run rfl (.bool true) (fun w hw => by simp [go_sem]) ?_
          simp only [Act.put, List.setIfInBounds_toArray, List.set_cons_zero, List.set_cons_succ]
          refine wpQ_run rfl (.bool true) (fun w hw => by simp [go_sem]) ?_
          simp only [Act.put, List.setIfInBounds_toArray, List.set_cons_zero, List.set_cons_succ]
          intro v7 bv7
          replace hR := hR.after bv7
          replace hY := hY.after bv7
          replace hX := hX.after bv7
          replace hB := hB.trans (bv7.mono hS)
          replace hS := Nat.le_trans hS bv7.size
          clear bv7
          go_upto_region 9 with fail
          go_step
          refine wpList_value rfl (.agg (qArr 0 0 0)) (run_build rfl #[] (by simp) _ (build_p0 _)) ?_
          simp only [Act.put, List.setIfInBounds_toArray, List.set_cons_zero, List.set_cons_succ]
          refine wpList_store_box (cells := qArr 0 0 0) rfl 36 (.tmp 2) (.tmp 46) rfl hR (by rfl) (by rfl) (by rw [qArr_size 0 0 0]; rfl) (by rw [qArr_size 0 0 0]; kernel_rfl) (qArr_one _ _ _) ?_
          intro v8 hR_ stv8
          simp only [Act.put]
          replace hY := stv8.box hY n_Y_R
          replace hX := stv8.box hX n_X_R
          replace hB := stv8.below w.heap.size w lR hB
          replace hS := Nat.le_trans hS (Nat.le_of_eq stv8.size.symm)
          clear hR stv8
          have hR := hR_
          clear hR_
          refine wpList_value rfl (.bool false) (by simp [go_sem]) ?_
          simp only [Act.put, List.setIfInBounds_toArray, List.set_cons_zero, List.set_cons_succ]
          obtain ⟨G, hG⟩ : ∃ G, G = qArr 0 0 0 := ⟨_, rfl⟩
          rw [← hG] at hR
          have HGS := Lib.hid (show G.size = 48 by rw [hG]; exact qArr_size 0 0 0)
          have HG := Lib.hid hG
          clear hG hY hX
          go_wp2_with fail
          exact bodyPost_ret (v := .tuple #[.agg G, .bool false]) (box_result2 (p := 2) (q := 3) rfl _ _ (by rfl) hR Try.underlying36 rfl (by rw [HGS.out]; kernel_rfl)) rfl ⟨0, 0, 0, by rw [HG.out, HNO.out], (fun h => by rw [HNO.out] at h; cases h), p_pos, p_pos, p_pos, hB⟩
        | false =>
          have HYES := Lib.hid (getOk_d HRP.out HCC.out.symm (by rw [← HRN.out]; exact HS0.out.symm))
          go_upto_region 8 with fail
          go_step
          refine wpList_made 10 v6.heap.size v6 (Below.refl _ _) ?_
          simp only [List.take_succ_cons, List.take_zero, List.drop_succ_cons, List.drop_zero]
          refine wpQ_run rfl (.bool true) (fun w hw => by simp [go_sem]) ?_
          simp only [Act.put, List.setIfInBounds_toArray, List.set_cons_zero, List.set_cons_succ]
          refine wpQ_run rfl (.bool false) (fun w hw => by simp [go_sem]) ?_
          simp only [Act.put, List.setIfInBounds_toArray, List.set_cons_zero, List.set_cons_succ]
          refine wpQ_run rfl (.bool false) (fun w hw => by simp [go_sem]) ?_
          simp only [Act.put, List.setIfInBounds_toArray, List.set_cons_zero, List.set_cons_succ]
          refine wpQ_run rfl (.bool true) (fun w hw => by simp [go_sem]) ?_
          simp only [Act.put, List.setIfInBounds_toArray, List.set_cons_zero, List.set_cons_succ]
          refine wpQ_run rfl (.bool true) (fun w hw => by simp [go_sem]) ?_
          simp only [Act.put, List.setIfInBounds_toArray, List.set_cons_zero, List.set_cons_succ]
          refine wpQ_load_box rfl 34 _ rfl hX (by rfl) hX.lt Try.underlying34 rfl (by rw [fArr_size]; kernel_rfl) ?_
          simp only [Act.put, List.setIfInBounds_toArray, List.set_cons_zero, List.set_cons_succ]
          refine wpQ_run rfl (.agg (Array.replicate 16 (Value.int .u64 0))) (fun w hw => by simp [go_sem]; rfl) ?_
          simp only [Act.put, List.setIfInBounds_toArray, List.set_cons_zero, List.set_cons_succ]
          refine wpQ_run rfl (.bool false) (fun w hw => by simp [go_sem, HEQ.out]) ?_
          simp only [Act.put, List.setIfInBounds_toArray, List.set_cons_zero, List.set_cons_succ]
          refine wpQ_run rfl (.bool false) (fun w hw => by simp [go_sem]) ?_
          simp only [Act.put, List.setIfInBounds_toArray, List.set_cons_zero, List.set_cons_succ]
          refine wpQ_run rfl (.bool false) (fun w hw => by simp [go_sem]) ?_
          simp only [Act.put, List.setIfInBounds_toArray, List.set_cons_zero, List.set_cons_succ]
          intro v7 bv7
          replace hR := hR.after bv7
          replace hY := hY.after bv7
          replace hX := hX.after bv7
          replace hB := hB.trans (bv7.mono hS)
          replace hS := Nat.le_trans hS bv7.size
          clear bv7
          obtain ⟨x3, hx3⟩ : ∃ x3, x3 = fs 0 rn := ⟨_, rfl⟩
          rw [← hx3] at HNG
          have HX3 := Lib.hid hx3
          clear hx3
          go_upto_region 11 with fail
          go_step
          refine wpList_load_box rfl 34 _ rfl hX (by rfl) Try.underlying34 rfl (by rw [fArr_size]; kernel_rfl) ?_
          simp only [Act.put, List.setIfInBounds_toArray, List.set_cons_zero, List.set_cons_succ]
          refine wpList_made_call rfl 39 #[.agg (fArr (dig rn))] (by simp [go_sem]) _ (HNG.out _) ?_
          intro v8 bv8
          simp only [Act.put, List.setIfInBounds_toArray, List.set_cons_zero, List.set_cons_succ]
          replace hR := hR.after bv8
          replace hY := hY.after bv8
          replace hX := hX.after bv8
          replace hB := hB.trans (bv8.mono hS)
          replace hS := Nat.le_trans hS bv8.size
          clear bv8
          refine wpList_store_box (cells := fArr (dig x3)) rfl 34 (.tmp 8) (.tmp 49) rfl hX (by rfl) (by rfl) (by rw [fArr_size]; rfl) (by rw [fArr_size]; kernel_rfl) (fArr_one _) ?_
          intro v9 hX_ stv9
          simp only [Act.put]
          replace hR := stv9.box hR n_R_X
          replace hY := stv9.box hY n_Y_X
          replace hB := stv9.below w.heap.size w lX hB
          replace hS := Nat.le_trans hS (Nat.le_of_eq stv9.size.symm)
          clear hX stv9
          have hX := hX_
          clear hX_
          go_upto_region 12 with fail
          have hKS : Keeps (fun w' => Box w' gX 34 (fArr (dig x3)) ∧ Box w' gY 34 (fArr (dig y))) := fun w w' h b => ⟨h.1.after b, h.2.after b⟩
          refine wp_region_U (w := v9) (fun w' => Box w' gX 34 (fArr (dig x3)) ∧ Box w' gY 34 (fArr (dig y))) rfl (⟨hX.drew, hY.drew⟩) ?_
          replace hR := hR.drew
          replace hY := hY.drew
          replace hX := hX.drew
          replace hB := hB.drew
          replace hS := Nat.le_trans hS (show v9.heap.size ≤ v9.drew.heap.size from Nat.le_refl _)
          refine wpU_val 0 hKS rfl (by kernel_rfl) (by kernel_rfl) (by kernel_rfl) rfl (fun _ _ _ _ h => h) (.agg (fArr (dig x3))) (fun w' h => run_load_box rfl h.1 (by simp [go_sem]) Try.underlying34 rfl (by rw [fArr_size]; kernel_rfl)) ?_
          simp only [Act.put, List.setIfInBounds_toArray, List.set_cons_zero, List.set_cons_succ]
          refine wpU_val 1 hKS rfl (by kernel_rfl) (by kernel_rfl) (by kernel_rfl) rfl (fun _ _ _ _ h => h) (.agg (fArr (dig y))) (fun w' h => run_load_box rfl h.2 (by simp [go_sem]) Try.underlying34 rfl (by rw [fArr_size]; kernel_rfl)) ?_
          simp only [Act.put, List.setIfInBounds_toArray, List.set_cons_zero, List.set_cons_succ]
          refine wpU_call 2 hKS rfl (by kernel_rfl) (by kernel_rfl) (by kernel_rfl) rfl (fun _ _ _ _ h => h) 40 #[.int .u64 1] (fun w => by simp [go_sem]) _ (HOF.out) ?_
          simp only [Act.put, List.setIfInBounds_toArray, List.set_cons_zero, List.set_cons_succ]
          refine wpU_val 3 hKS rfl (by kernel_rfl) (by kernel_rfl) (by kernel_rfl) rfl (fun _ _ _ _ h => h) (.agg (qArr x3 y 1)) (fun w' h => run_build rfl _ (by simp [go_sem]) _ (build_p x3 y 1 _)) ?_
          simp only [Act.put, List.setIfInBounds_toArray, List.set_cons_zero, List.set_cons_succ]
          refine wpU_store_box (cells := qArr x3 y 1) 4 rfl (by kernel_rfl) rfl 36 (.tmp 2) (.tmp 53) rfl hR (by simp [go_sem]) (by simp [go_sem]) (by rw [qArr_size x3 y 1]; rfl) (by rw [qArr_size x3 y 1]; kernel_rfl) (qArr_one _ _ _) ?_
          intro v10 v11 bv10 sS hR_ stv11
          refine ⟨⟨stv11.box sS.1 n_X_R, stv11.box sS.2 n_Y_R⟩, ?_⟩
          simp only [Act.put]
          replace hR := hR.after bv10
          replace hY := hY.after bv10
          replace hX := hX.after bv10
          replace hB := hB.trans (bv10.mono hS)
          replace hS := Nat.le_trans hS bv10.size
          clear bv10
          replace hY := stv11.box hY n_Y_R
          replace hX := stv11.box hX n_X_R
          replace hB := stv11.below w.heap.size w lR hB
          replace hS := Nat.le_trans hS (Nat.le_of_eq stv11.size.symm)
          clear hR stv11 sS
          have hR := hR_
          clear hR_
          refine wpU_val 5 hKS rfl (by kernel_rfl) (by kernel_rfl) (by kernel_rfl) rfl (fun _ _ _ _ h => h) (.bool true) (fun w' h => by simp [go_sem]) ?_
          simp only [Act.put, List.setIfInBounds_toArray, List.set_cons_zero, List.set_cons_succ]
          refine wpU_done (by kernel_rfl) ?_
          intro v12 bv12 sS
          clear hKS sS
          replace hR := hR.after bv12
          replace hY := hY.after bv12
          replace hX := hX.after bv12
          replace hB := hB.trans (bv12.mono hS)
          replace hS := Nat.le_trans hS bv12.size
          clear bv12
          obtain ⟨G, hG⟩ : ∃ G, G = qArr x3 y 1 := ⟨_, rfl⟩
          rw [← hG] at hR
          have HGS := Lib.hid (show G.size = 48 by rw [hG]; exact qArr_size x3 y 1)
          have HG := Lib.hid hG
          clear hG hY hX
          go_wp2_with fail
          exact bodyPost_ret (v := .tuple #[.agg G, .bool true]) (box_result2 (p := 2) (q := 3) rfl _ _ (by rfl) hR Try.underlying36 rfl (by rw [HGS.out]; kernel_rfl)) rfl ⟨x3, y, 1, by rw [HG.out, HYES.out], (fun _ => ⟨by unfold getX; rw [← HRN.out, ← HX3.out]; rfl, rfl, rfl⟩), (by rw [HX3.out]; exact fs_lt _ _), HRP.out, one_P, hB⟩
end Go.Proofs.Ytpkoniebbkkmjaa

/- Points: the base's numbers, reckoned (plain). -/
namespace Go.Proofs.Ytpkoniebbkkmjaa
open Go.RowKit

theorem pw_pm (u v : Nat) (h : mp P25 255 u (P25 - 2) = v) : fi u = v := by
  unfold fi
  exact pw_mp u (P25 - 2) v (by decide) h
theorem i5 : mp P25 255 5 (P25 - 2) = 11579208923731619542357098500868790785326998466564056403945758400791312963990 := by decide +kernel
theorem id1 : mp P25 255 121666 (P25 - 2) = 37095705934669439343138083508754565189542113879843219016388785533085940283556 := by decide +kernel
theorem in2 : mp P25 255 35320460721920060721965471946471712506633951349663716574434581141966314745466 (P25 - 2) = 36615873626505047815401509688526422966742341385236691817538452001808239043262 := by decide +kernel
theorem c1 : fm 4 11579208923731619542357098500868790785326998466564056403945758400791312963990 = 46316835694926478169428394003475163141307993866256225615783033603165251855960 := by decide +kernel
theorem c2 : fm (fs 0 121665) 37095705934669439343138083508754565189542113879843219016388785533085940283556 = 37095705934669439343138083508754565189542113879843219016388785533085940283555 := by decide +kernel
theorem c3 : fm 46316835694926478169428394003475163141307993866256225615783033603165251855960 46316835694926478169428394003475163141307993866256225615783033603165251855960 = 37053468555941182535542715202780130513046395093004980492626426882532201484768 := by decide +kernel
theorem c4 : fa (fm 37095705934669439343138083508754565189542113879843219016388785533085940283555 37053468555941182535542715202780130513046395093004980492626426882532201484768) 1 = 35320460721920060721965471946471712506633951349663716574434581141966314745466 := by decide +kernel
theorem c5 : fm (fs 37053468555941182535542715202780130513046395093004980492626426882532201484768 1) 36615873626505047815401509688526422966742341385236691817538452001808239043262 = 26187595835145689230469591415084376402084551887632582719101735842039498021991 := by decide +kernel
theorem c6 : 15112221349535400772501151409588531511454012693041857206046113283949847762202 * 15112221349535400772501151409588531511454012693041857206046113283949847762202 % P25 = 26187595835145689230469591415084376402084551887632582719101735842039498021991 := by decide +kernel
theorem c7 : 15112221349535400772501151409588531511454012693041857206046113283949847762202 < P25 := by decide +kernel
def yB : Nat := 46316835694926478169428394003475163141307993866256225615783033603165251855960
theorem yB_is : fm 4 (fi 5) = yB := by rw [pw_pm 5 _ i5, c1]; rfl
theorem dN_is : dN = 37095705934669439343138083508754565189542113879843219016388785533085940283555 := by rw [dN_def, pw_pm 121666 _ id1, c2]
theorem xxB : xx yB = 26187595835145689230469591415084376402084551887632582719101735842039498021991 := by
  unfold yB
  rw [xx_def, c3, dN_is, c4, pw_pm _ _ in2, c5]
theorem okB : rtOk (xx yB) = true := by
  rw [xxB, ← c6]
  exact (square_root _ c7).1
theorem yB_lt : yB < P25 := by decide +kernel
theorem yB_0 : yB / 256 ^ 0 % 256 = 88 := by decide +kernel
theorem yB_1 : yB / 256 ^ 1 % 256 = 102 := by decide +kernel
theorem yB_31 : yB / 256 ^ 31 % 256 = 102 := by decide +kernel
theorem pw_one (e : Nat) : pw 1 e = 1 := by
  rw [pw_def, Nat.one_pow]
  exact Nat.mod_eq_of_lt (by unfold P25; omega)
theorem fi_one : fi 1 = 1 := by unfold fi; exact pw_one _
theorem fm_one {u : Nat} (h : u < P25) : fm u 1 = u := by unfold fm; rw [Nat.mul_one, Nat.mod_eq_of_lt h]
end Go.Proofs.Ytpkoniebbkkmjaa

/- Points: same, Base, awake. -/
namespace Go.Proofs.Ytpkoniebbkkmjaa
open Go.RowKit
attribute [local irreducible] fi dN xx rtN rtOk pw

set_option maxRecDepth 100000 in
set_option maxHeartbeats 20000000 in
theorem same7_any (x y z t : L5) (X Y Z u v n : Nat) (hx : El x X) (hy : El y Y) (hz : El z Z) (hu : u < P25) (hv : v < P25) (hn : n < P25) (w : World) : Calls Try.prog 13 #[.agg (pArr x y z t), .agg (qArr u v n)] w fun e w' => e = .returned (.bool (pN X Y Z == pN u v n)) ∧ Below w.heap.size w w' := by
  have HB1 := Lib.hid (fun w : World => ptBytes_any x y z t X Y Z hx hy hz w)
  have HB2 := Lib.hid (fun w : World => refPtBytes_any u v n hu hv hn w)
  have heq := str_beq (pN X Y Z) (pN u v n) (pN_lt _ _ _) (pN_lt _ _ _)
  generalize pN X Y Z = N1 at *
  generalize pN u v n = N2 at *
  obtain ⟨b, hb⟩ : ∃ b, b = (N1 == N2) := ⟨_, rfl⟩
  rw [← hb] at heq ⊢
  have HEQ := Lib.hid heq
  clear heq hb hx hy hz hu hv hn
  go_enter Try.func13, Try.ntmps13
  go_upto_region 1 with fail
  have hP : Box ((w.alloc (.cells (pArr x y z t) 29)).alloc (.cells (qArr u v n) 36)) w.heap.size 29 (pArr x y z t) := ((Box.new w 29 (pArr x y z t)).alloc (.cells (qArr u v n) 36))
  have lP : w.heap.size ≤ w.heap.size := by omega
  have hQ : Box ((w.alloc (.cells (pArr x y z t) 29)).alloc (.cells (qArr u v n) 36)) (w.heap.size + 1) 36 (qArr u v n) := by
    have := (Box.new (w.alloc (.cells (pArr x y z t) 29)) 36 (qArr u v n))
    simp only [World.size_alloc] at this
    exact this
  have lQ : w.heap.size ≤ (w.heap.size + 1) := by omega
  have n_P_Q : w.heap.size ≠ (w.heap.size + 1) := by omega
  have n_Q_P : (w.heap.size + 1) ≠ w.heap.size := by omega
  have hB : Below w.heap.size w ((w.alloc (.cells (pArr x y z t) 29)).alloc (.cells (qArr u v n) 36)) := (((Below.refl w.heap.size w).alloc (by simp; try omega) (.cells (pArr x y z t) 29)).alloc (by simp; try omega) (.cells (qArr u v n) 36))
  have hS := hB.size
  change Code.wp _ _ _ _ ((w.alloc (.cells (pArr x y z t) 29)).alloc (.cells (qArr u v n) 36))
  generalize ((w.alloc (.cells (pArr x y z t) 29)).alloc (.cells (qArr u v n) 36)) = v0 at *
  go_step
  refine wpList_load_box rfl 29 _ rfl hP (by rfl) Try.underlying29 rfl (by rw [pArr_size]; kernel_rfl) ?_
  simp only [Act.put, List.setIfInBounds_toArray, List.set_cons_zero, List.set_cons_succ]
  refine wpList_made_call rfl 12 #[.agg (pArr x y z t)] (by simp [go_sem]) _ (HB1.out _) ?_
  intro v1 bv1
  simp only [Act.put, List.setIfInBounds_toArray, List.set_cons_zero, List.set_cons_succ]
  replace hP := hP.after bv1
  replace hQ := hQ.after bv1
  replace hB := hB.trans (bv1.mono hS)
  replace hS := Nat.le_trans hS bv1.size
  clear bv1
  refine wpList_new rfl 39 rfl (Array.replicate 32 (Value.int .u8 0)) (by intro w; simp [go_sem]; rfl) ?_
  intro gO v2 hO lO bv2
  simp only [Act.put, List.setIfInBounds_toArray, List.set_cons_zero, List.set_cons_succ]
  have n_P_O := hP.before lO
  have n_O_P := hP.behind lO
  have n_Q_O := hQ.before lO
  have n_O_Q := hQ.behind lO
  replace lO := Nat.le_trans hS lO
  replace hP := hP.after bv2
  replace hQ := hQ.after bv2
  replace hB := hB.trans (bv2.mono hS)
  replace hS := Nat.le_trans hS bv2.size
  clear bv2
  refine wpList_store_box (cells := bts N1) rfl 39 (.tmp 5) (.tmp 7) rfl hO (by rfl) (by rfl) (by rw [bts_size]; rfl) (by rw [bts_size]; kernel_rfl) (bts_one _) ?_
  intro v3 hO_ stv3
  simp only [Act.put]
  replace hP := stv3.box hP n_P_O
  replace hQ := stv3.box hQ n_Q_O
  replace hB := stv3.below w.heap.size w lO hB
  replace hS := Nat.le_trans hS (Nat.le_of_eq stv3.size.symm)
  clear hO stv3
  have hO := hO_
  clear hO_
  clear hP
  have hcv := Lib.hid (fun w' (hb : Below v3.heap.size v3 w') => conv_sl (bts_sl (hO.after hb)))
  have hq := hQ
  go_upto_region 2 with fail
  refine wp_region_held_drew (S := fun w' => Below v3.heap.size v3 w') rfl (Below.refl _ _).drew (fun hb2 => ?_)
  refine wpH_take 0 rfl (by kernel_rfl) (by kernel_rfl) (by kernel_rfl) rfl (fun _ _ _ _ h => h) (.slice (some ⟨gO, 0, none⟩) 32 32) (fun w' h => by simp [go_sem]) hb2 ?_
  refine wpH_take 1 rfl (by kernel_rfl) (by kernel_rfl) (by kernel_rfl) rfl (fun _ _ _ _ h => h) (.string ⟨(leBytes N1 32).toArray⟩) (fun w' h => by simp [go_sem, Act.put, hcv.out w' h]) hb2 ?_
  refine wpH_take 2 rfl (by kernel_rfl) (by kernel_rfl) (by kernel_rfl) rfl (fun _ _ _ _ h => h) (.agg (qArr u v n)) (fun w' h => run_load_box rfl (hq.after h) (by simp [go_sem, Act.put]) Try.underlying36 rfl (by rw [qArr_size u v n]; kernel_rfl)) hb2 ?_
  refine wpH_enter 3 rfl (by kernel_rfl) rfl 43 #[.agg (qArr u v n)] (by simp [go_sem, Act.put]) _ (HB2.out _) ?_
  rintro e w3 ⟨a3, c3, rfl, hS3, hb3⟩
  have hb4 := hb2.trans (hb3.mono (by simp))
  refine ⟨_, rfl, hb4, ?_⟩
  have hcv3 := conv_sl hS3
  refine wpH_run 4 rfl (by kernel_rfl) rfl (.string ⟨(leBytes N2 32).toArray⟩) w3 (by simp [go_sem, Act.put, hcv3]) hb4 ?_
  refine wpH_run 5 rfl (by kernel_rfl) rfl (.bool b) w3 (by simp [go_sem, Act.put, HEQ.out]) hb4 ?_
  refine wpH_run 6 rfl (by kernel_rfl) rfl (.bool b) w3 (by simp [go_sem, Act.put]) hb4 ?_
  refine wpAnyH_done (by kernel_rfl) ?_ _
  simp only [Act.put, List.setIfInBounds_toArray, List.set_cons_zero, List.set_cons_succ]
  have hE := hB.trans (hb4.mono (by omega))
  clear hb4 hb3 hb2 hcv3 hS3 hQ hq hO hB
  go_wp2_with fail
  go_ret
  exact ⟨rfl, hE⟩
def RetBase (w : World) (e : Ending) (w' : World) : Prop := ∃ x y z t : L5, e = .returned (.agg (pArr x y z t)) ∧ (El x (rtN (xx yB)) ∧ El y yB ∧ El z 1 ∧ El t (fm (rtN (xx yB)) yB)) ∧ Below w.heap.size w w'
set_option maxRecDepth 100000 in
set_option maxHeartbeats 20000000 in
theorem base_any (w : World) : Calls Try.prog 21 #[] w (RetBase w) := by
  have HO4 := Lib.hid (of_g 4 (by decide))
  have HO5 := Lib.hid (of_g 5 (by decide))
  have HYI := Lib.hid yB_is
  have hok := getOk_e yB_lt okB
  have hyl := P25_255 yB_lt
  have HGET := Lib.hid (fun (w : World) (a : Option Addr) (cap : Nat) (h : Sl w a 32 cap (leBytes yB 32)) => get_pt yB 0 hyl (by omega) a cap w (by rw [Nat.mul_zero, Nat.add_zero]; exact h))
  unfold RetGet at HGET
  have hgx : getX yB 0 = rtN (xx yB) := by unfold getX; exact cond_false _ _
  obtain ⟨er, her⟩ : ∃ er : Int, er = bif getOk yB 0 then 0 else 8 := ⟨_, rfl⟩
  rw [hok] at HGET her
  rw [hgx, ← her] at HGET
  unfold RetBase
  generalize yB = yb at *
  generalize rtN (xx yb) = rn at *
  clear hok hyl hgx her
  go_enter Try.func21, Try.ntmps21
  go_upto_region 1 with fail
  have hR : Box (w.alloc (.cells #[.int .u64 0, .int .u64 0, .int .u64 0, .int .u64 0, .int .u64 0, .int .u64 0, .int .u64 0, .int .u64 0, .int .u64 0, .int .u64 0, .int .u64 0, .int .u64 0, .int .u64 0, .int .u64 0, .int .u64 0, .int .u64 0, .int .u64 0, .int .u64 0, .int .u64 0, .int .u64 0] 29)) w.heap.size 29 #[.int .u64 0, .int .u64 0, .int .u64 0, .int .u64 0, .int .u64 0, .int .u64 0, .int .u64 0, .int .u64 0, .int .u64 0, .int .u64 0, .int .u64 0, .int .u64 0, .int .u64 0, .int .u64 0, .int .u64 0, .int .u64 0, .int .u64 0, .int .u64 0, .int .u64 0, .int .u64 0] := (Box.new w 29 #[.int .u64 0, .int .u64 0, .int .u64 0, .int .u64 0, .int .u64 0, .int .u64 0, .int .u64 0, .int .u64 0, .int .u64 0, .int .u64 0, .int .u64 0, .int .u64 0, .int .u64 0, .int .u64 0, .int .u64 0, .int .u64 0, .int .u64 0, .int .u64 0, .int .u64 0, .int .u64 0])
  have lR : w.heap.size ≤ w.heap.size := by omega
  have hB : Below w.heap.size w (w.alloc (.cells #[.int .u64 0, .int .u64 0, .int .u64 0, .int .u64 0, .int .u64 0, .int .u64 0, .int .u64 0, .int .u64 0, .int .u64 0, .int .u64 0, .int .u64 0, .int .u64 0, .int .u64 0, .int .u64 0, .int .u64 0, .int .u64 0, .int .u64 0, .int .u64 0, .int .u64 0, .int .u64 0] 29)) := ((Below.refl w.heap.size w).alloc (by simp; try omega) (.cells #[.int .u64 0, .int .u64 0, .int .u64 0, .int .u64 0, .int .u64 0, .int .u64 0, .int .u64 0, .int .u64 0, .int .u64 0, .int .u64 0, .int .u64 0, .int .u64 0, .int .u64 0, .int .u64 0, .int .u64 0, .int .u64 0, .int .u64 0, .int .u64 0, .int .u64 0, .int .u64 0] 29))
  have hS := hB.size
  change Code.wp _ _ _ _ (w.alloc (.cells #[.int .u64 0, .int .u64 0, .int .u64 0, .int .u64 0, .int .u64 0, .int .u64 0, .int .u64 0, .int .u64 0, .int .u64 0, .int .u64 0, .int .u64 0, .int .u64 0, .int .u64 0, .int .u64 0, .int .u64 0, .int .u64 0, .int .u64 0, .int .u64 0, .int .u64 0, .int .u64 0] 29))
  generalize (w.alloc (.cells #[.int .u64 0, .int .u64 0, .int .u64 0, .int .u64 0, .int .u64 0, .int .u64 0, .int .u64 0, .int .u64 0, .int .u64 0, .int .u64 0, .int .u64 0, .int .u64 0, .int .u64 0, .int .u64 0, .int .u64 0, .int .u64 0, .int .u64 0, .int .u64 0, .int .u64 0, .int .u64 0] 29)) = v0 at *
  go_step
  refine wpList_made_call rfl 29 #[.int .u64 4] (by simp [go_sem]) _ (HO4.out _) ?_
  intro v1 bv1
  simp only [Act.put, List.setIfInBounds_toArray, List.set_cons_zero, List.set_cons_succ]
  replace hR := hR.after bv1
  replace hB := hB.trans (bv1.mono hS)
  replace hS := Nat.le_trans hS bv1.size
  clear bv1
  refine wpList_made_call rfl 29 #[.int .u64 5] (by simp [go_sem]) _ (HO5.out _) ?_
  intro v2 bv2
  simp only [Act.put, List.setIfInBounds_toArray, List.set_cons_zero, List.set_cons_succ]
  replace hR := hR.after bv2
  replace hB := hB.trans (bv2.mono hS)
  replace hS := Nat.le_trans hS bv2.size
  clear bv2
  refine wpList_enterR rfl 34 #[.agg (gArr (ofL 5).at)] (by simp [go_sem]) _ (inv_fi _ 5 _ (elOf 5 (by decide))) ?_
  rintro e v3 ⟨i, rfl, hi, bv3⟩
  refine ⟨_, rfl, ?_⟩
  simp only [Act.put, List.setIfInBounds_toArray, List.set_cons_zero, List.set_cons_succ]
  replace hR := hR.after bv3
  replace hB := hB.trans (bv3.mono hS)
  replace hS := Nat.le_trans hS bv3.size
  clear bv3
  have HI := Lib.hid hi
  clear hi
  refine wpList_made_call rfl 30 #[.agg (gArr (ofL 4).at), .agg (gArr i.at)] (by simp [go_sem]) _ (mul_el (elOf 4 (by decide)) HI.out _) ?_
  intro v4 bv4
  simp only [Act.put, List.setIfInBounds_toArray, List.set_cons_zero, List.set_cons_succ]
  replace hR := hR.after bv4
  replace hB := hB.trans (bv4.mono hS)
  replace hS := Nat.le_trans hS bv4.size
  clear bv4
  have HYB : Hid (El ((ofL 4).mul i) yb) := Lib.hid (by have h := elM (elOf 4 (by decide)) HI.out; rwa [HYI.out] at h)
  refine wpList_made_call rfl 41 #[.agg (gArr ((ofL 4).mul i).at)] (by simp [go_sem]) _ (fbytes HYB.out _) ?_
  intro v5 bv5
  simp only [Act.put, List.setIfInBounds_toArray, List.set_cons_zero, List.set_cons_succ]
  replace hR := hR.after bv5
  replace hB := hB.trans (bv5.mono hS)
  replace hS := Nat.le_trans hS bv5.size
  clear bv5
  refine wpList_new rfl 39 rfl (Array.replicate 32 (Value.int .u8 0)) (by intro w; simp [go_sem]; rfl) ?_
  intro gY v6 hY lY bv6
  simp only [Act.put, List.setIfInBounds_toArray, List.set_cons_zero, List.set_cons_succ]
  have n_R_Y := hR.before lY
  have n_Y_R := hR.behind lY
  replace lY := Nat.le_trans hS lY
  replace hR := hR.after bv6
  replace hB := hB.trans (bv6.mono hS)
  replace hS := Nat.le_trans hS bv6.size
  clear bv6
  refine wpList_store_box (cells := bts yb) rfl 39 (.tmp 1) (.tmp 8) rfl hY (by rfl) (by rfl) (by rw [bts_size]; rfl) (by rw [bts_size]; kernel_rfl) (bts_one _) ?_
  intro v7 hY_ stv7
  simp only [Act.put]
  replace hR := stv7.box hR n_R_Y
  replace hB := stv7.below w.heap.size w lY hB
  replace hS := Nat.le_trans hS (Nat.le_of_eq stv7.size.symm)
  clear hY stv7
  have hY := hY_
  clear hY_
  go_upto_region 2 with fail
  go_step
  refine wpList_value rfl (.slice (some ⟨gY, 0, none⟩) 32 32) (by simp [go_sem]) ?_
  simp only [Act.put, List.setIfInBounds_toArray, List.set_cons_zero, List.set_cons_succ]
  refine wpList_enterR rfl 10 #[.slice (some ⟨gY, 0, none⟩) 32 32] (by simp [go_sem]) _ (HGET.out _ _ _ (bts_sl hY)) ?_
  rintro e v8 ⟨x, y, z, t, rfl, hel, bv8⟩
  refine ⟨_, rfl, ?_⟩
  simp only [Act.put, List.setIfInBounds_toArray, List.set_cons_zero, List.set_cons_succ]
  replace hR := hR.after bv8
  replace hY := hY.after bv8
  replace hB := hB.trans (bv8.mono hS)
  replace hS := Nat.le_trans hS bv8.size
  clear bv8
  have HEL := Lib.hid hel
  clear hel
  refine wpList_value rfl (.tuple #[.agg (pArr x y z t), .int .i64 er]) (by simp [go_sem]) ?_
  simp only [Act.put, List.setIfInBounds_toArray, List.set_cons_zero, List.set_cons_succ]
  refine wpList_value rfl (.agg (pArr x y z t)) (by simp [go_sem]) ?_
  simp only [Act.put, List.setIfInBounds_toArray, List.set_cons_zero, List.set_cons_succ]
  refine wpList_value rfl (.int .i64 er) (by simp [go_sem]) ?_
  simp only [Act.put, List.setIfInBounds_toArray, List.set_cons_zero, List.set_cons_succ]
  refine wpList_new rfl 29 rfl #[.int .u64 0, .int .u64 0, .int .u64 0, .int .u64 0, .int .u64 0, .int .u64 0, .int .u64 0, .int .u64 0, .int .u64 0, .int .u64 0, .int .u64 0, .int .u64 0, .int .u64 0, .int .u64 0, .int .u64 0, .int .u64 0, .int .u64 0, .int .u64 0, .int .u64 0, .int .u64 0] (by intro w; simp [go_sem]) ?_
  intro gP v9 hP lP bv9
  simp only [Act.put, List.setIfInBounds_toArray, List.set_cons_zero, List.set_cons_succ]
  have n_R_P := hR.before lP
  have n_P_R := hR.behind lP
  have n_Y_P := hY.before lP
  have n_P_Y := hY.behind lP
  replace lP := Nat.le_trans hS lP
  replace hR := hR.after bv9
  replace hY := hY.after bv9
  replace hB := hB.trans (bv9.mono hS)
  replace hS := Nat.le_trans hS bv9.size
  clear bv9
  refine wpList_store_box (cells := pArr x y z t) rfl 29 (.tmp 2) (.tmp 12) rfl hP (by rfl) (by rfl) (by rw [pArr_size x y z t]; rfl) (by rw [pArr_size x y z t]; kernel_rfl) (pArr_one _ _ _ _) ?_
  intro v10 hP_ stv10
  simp only [Act.put]
  replace hR := stv10.box hR n_R_P
  replace hY := stv10.box hY n_Y_P
  replace hB := stv10.below w.heap.size w lP hB
  replace hS := Nat.le_trans hS (Nat.le_of_eq stv10.size.symm)
  clear hP stv10
  have hP := hP_
  clear hP_
  refine wpList_value rfl (.int .i64 er) (by simp [go_sem]) ?_
  simp only [Act.put, List.setIfInBounds_toArray, List.set_cons_zero, List.set_cons_succ]
  go_upto_region 3 with fail
  go_step
  refine wpList_load_box rfl 29 _ rfl hP (by rfl) Try.underlying29 rfl (by rw [pArr_size x y z t]; kernel_rfl) ?_
  simp only [Act.put, List.setIfInBounds_toArray, List.set_cons_zero, List.set_cons_succ]
  refine wpList_store_box (cells := pArr x y z t) rfl 29 (.tmp 0) (.tmp 14) rfl hR (by rfl) (by rfl) (by rw [pArr_size x y z t]; rfl) (by rw [pArr_size x y z t]; kernel_rfl) (pArr_one _ _ _ _) ?_
  intro v11 hR_ stv11
  simp only [Act.put]
  replace hY := stv11.box hY n_Y_R
  replace hP := stv11.box hP n_P_R
  replace hB := stv11.below w.heap.size w lR hB
  replace hS := Nat.le_trans hS (Nat.le_of_eq stv11.size.symm)
  clear hR stv11
  have hR := hR_
  clear hR_
  obtain ⟨G, hG⟩ : ∃ G, G = pArr x y z t := ⟨_, rfl⟩
  rw [← hG] at hR
  have HGS := Lib.hid (show G.size = 20 by rw [hG]; exact pArr_size x y z t)
  have HG := Lib.hid hG
  clear hG hY hP
  go_wp2_with fail
  exact bodyPost_ret (v := .agg G) (box_result rfl _ _ (by rfl) hR Try.underlying29 rfl (by rw [HGS.out]; kernel_rfl)) rfl ⟨x, y, z, t, by rw [HG.out], HEL.out trivial, hB⟩
end Go.Proofs.Ytpkoniebbkkmjaa

/- PointGets: the walk. -/
namespace Go.Proofs.Ytpkoniebbkkmjaa
open Go.RowKit
attribute [local irreducible] fi dN xx rtN rtOk pw yB

theorem even_rt (u : Nat) (hu : u < P25) : rtN u % 2 = 0 := by
  have h := (inverts_math u hu).2.1
  have h2 : ¬ rtN u % 2 = 1 := fun h3 => by rw [h3] at h; cases h
  omega
theorem xx_lt (y : Nat) : xx y < P25 := by rw [xx_def]; exact fm_lt _ _
theorem pN_one (u v : Nat) (hu : u < P25) (hv : v < P25) : pN u v 1 = v + 2 ^ 255 * (u % 2) := by
  unfold pN
  rw [fi_one, fm_one hu, fm_one hv]
theorem pN_base : pN (rtN (xx yB)) yB 1 = yB := by
  rw [pN_one _ _ (rtN_lt _) yB_lt, even_rt _ (xx_lt _), Nat.mul_zero, Nat.add_zero]
theorem getX_odd (rn q : Nat) (hq : q < 2) (he : rn % 2 = 0) (hl : rn < P25) (h0 : ¬ (q = 1 ∧ rn = 0)) : (bif q == 1 then fs 0 rn else rn) % 2 = q := by
  rcases Nat.lt_or_ge q 1 with h | h
  · obtain rfl : q = 0 := by omega
    exact he
  · obtain rfl : q = 1 := by omega
    have hp := P25_odd
    have : rn ≠ 0 := fun h1 => h0 ⟨rfl, h1⟩
    have e : (bif (1 : Nat) == 1 then fs 0 rn else rn) = fs 0 rn := cond_true _ _
    rw [e]
    unfold fs
    rw [Nat.zero_add, Nat.mod_eq_of_lt (show P25 - rn < P25 by omega)]
    omega
theorem pN_get (r q : Nat) (hq : q < 2) (h : getOk r q = true) : pN (getX r q) r 1 = r + 2 ^ 255 * q := by
  have hr : r < P25 := by
    rcases Nat.lt_or_ge r P25 with h1 | h1
    · exact h1
    · rw [getOk_a (by omega)] at h; cases h
  have h2 : ¬ (q = 1 ∧ rtN (xx r) = 0) := fun h3 => by
    obtain ⟨rfl, h4⟩ := h3
    rw [getOk_c (by rw [h4]; rfl)] at h
    cases h
  have h5 : getX r q % 2 = q := by
    have he := even_rt (xx r) (xx_lt r)
    have hl := rtN_lt (xx r)
    unfold getX
    generalize rtN (xx r) = rn at *
    exact getX_odd rn q hq he hl h2
  rw [pN_one _ _ (getX_lt r q) hr, h5]

set_option linter.unusedSimpArgs false in
set_option maxRecDepth 100000 in
set_option maxHeartbeats 20000000 in
theorem awake7_any (w : World) : Calls Try.prog 9 #[] w fun e w' => e = .returned (.bool true) ∧ Below w.heap.size w w' := by
  have HBS := Lib.hid base_any
  have h0 := yB_0
  have h1 := yB_1
  have h31 := yB_31
  have hbt : ∀ (x y z t : L5) (w : World), El x (rtN (xx yB)) → El y yB → El z 1 → Calls Try.prog 12 #[.agg (pArr x y z t)] w fun e w' => e = .returned (.agg (bts yB)) ∧ Below w.heap.size w w' := fun x y z t w hx hy hz => by
    have := ptBytes_any x y z t _ _ _ hx hy hz w
    rw [pN_base] at this
    exact this
  have HBT := Lib.hid hbt
  unfold RetBase at HBS
  generalize yB = yb at *
  generalize rtN (xx yb) = rn at *
  have HC0 := Lib.hid h0
  have HC1 := Lib.hid h1
  have HC31 := Lib.hid h31
  clear h0 h1 h31 hbt
  go_enter Try.func9, Try.ntmps9
  go_upto_region 1 with fail
  have hB : Below w.heap.size w w := Below.refl _ _
  have hS : w.heap.size ≤ w.heap.size := Nat.le_refl _
  go_step
  refine wpList_enterR rfl 21 #[] (by simp [go_sem]) _ (HBS.out _) ?_
  rintro e v1 ⟨x, y, z, t, rfl, hel, bv1⟩
  refine ⟨_, rfl, ?_⟩
  simp only [Act.put, List.setIfInBounds_toArray, List.set_cons_zero, List.set_cons_succ]
  replace hB := hB.trans (bv1.mono hS)
  replace hS := Nat.le_trans hS bv1.size
  clear bv1
  have HEL := Lib.hid hel
  clear hel
  refine wpList_made_call rfl 12 #[.agg (pArr x y z t)] (by simp [go_sem]) _ (HBT.out _ _ _ _ _ HEL.out.1 HEL.out.2.1 HEL.out.2.2.1) ?_
  intro v2 bv2
  simp only [Act.put, List.setIfInBounds_toArray, List.set_cons_zero, List.set_cons_succ]
  replace hB := hB.trans (bv2.mono hS)
  replace hS := Nat.le_trans hS bv2.size
  clear bv2
  refine wpList_new rfl 39 rfl (Array.replicate 32 (Value.int .u8 0)) (by intro w; simp [go_sem]; rfl) ?_
  intro gO v3 hO lO bv3
  simp only [Act.put, List.setIfInBounds_toArray, List.set_cons_zero, List.set_cons_succ]
  replace lO := Nat.le_trans hS lO
  replace hB := hB.trans (bv3.mono hS)
  replace hS := Nat.le_trans hS bv3.size
  clear bv3
  refine wpList_store_box (cells := bts yb) rfl 39 (.tmp 1) (.tmp 3) rfl hO (by rfl) (by rfl) (by rw [bts_size]; rfl) (by rw [bts_size]; kernel_rfl) (bts_one _) ?_
  intro v4 hO_ stv4
  simp only [Act.put]
  replace hB := stv4.below w.heap.size w lO hB
  replace hS := Nat.le_trans hS (Nat.le_of_eq stv4.size.symm)
  clear hO stv4
  have hO := hO_
  clear hO_
  go_upto_region 2 with fail
  go_step
  have c0 := Lib.hid (fun w' (h : Below v4.heap.size v4 w') => (hO.after h).cell 0 (bts_get yb 0 (by omega)))
  rw [HC0.out] at c0
  have c1 := Lib.hid (fun w' (h : Below v4.heap.size v4 w') => (hO.after h).cell 1 (bts_get yb 1 (by omega)))
  rw [HC1.out] at c1
  have c31 := Lib.hid (fun w' (h : Below v4.heap.size v4 w') => (hO.after h).cell 31 (bts_get yb 31 (by omega)))
  rw [HC31.out] at c31
  refine wpList_made 14 v4.heap.size v4 (Below.refl _ _) ?_
  simp only [List.take_succ_cons, List.take_zero, List.drop_succ_cons, List.drop_zero]
  refine wpQ_run rfl (.pointer (some ⟨gO, 0, none⟩)) (fun w hw => by simp [go_sem]) ?_
  simp only [Act.put, List.setIfInBounds_toArray, List.set_cons_zero, List.set_cons_succ]
  refine wpQ_run rfl (.int .u8 88) (fun w hw => by simp [go_sem, c0.out w hw]) ?_
  simp only [Act.put, List.setIfInBounds_toArray, List.set_cons_zero, List.set_cons_succ]
  refine wpQ_run rfl (.bool true) (fun w hw => by simp [go_sem]) ?_
  simp only [Act.put, List.setIfInBounds_toArray, List.set_cons_zero, List.set_cons_succ]
  refine wpQ_run rfl (.bool true) (fun w hw => by simp [go_sem]) ?_
  simp only [Act.put, List.setIfInBounds_toArray, List.set_cons_zero, List.set_cons_succ]
  refine wpQ_run rfl (.pointer (some ⟨gO, 1, none⟩)) (fun w hw => by simp [go_sem]) ?_
  simp only [Act.put, List.setIfInBounds_toArray, List.set_cons_zero, List.set_cons_succ]
  refine wpQ_run rfl (.int .u8 102) (fun w hw => by simp [go_sem, c1.out w hw]) ?_
  simp only [Act.put, List.setIfInBounds_toArray, List.set_cons_zero, List.set_cons_succ]
  refine wpQ_run rfl (.bool true) (fun w hw => by simp [go_sem]) ?_
  simp only [Act.put, List.setIfInBounds_toArray, List.set_cons_zero, List.set_cons_succ]
  refine wpQ_run rfl (.bool true) (fun w hw => by simp [go_sem]) ?_
  simp only [Act.put, List.setIfInBounds_toArray, List.set_cons_zero, List.set_cons_succ]
  refine wpQ_run rfl (.bool true) (fun w hw => by simp [go_sem]) ?_
  simp only [Act.put, List.setIfInBounds_toArray, List.set_cons_zero, List.set_cons_succ]
  refine wpQ_run rfl (.pointer (some ⟨gO, 31, none⟩)) (fun w hw => by simp [go_sem]) ?_
  simp only [Act.put, List.setIfInBounds_toArray, List.set_cons_zero, List.set_cons_succ]
  refine wpQ_run rfl (.int .u8 102) (fun w hw => by simp [go_sem, c31.out w hw]) ?_
  simp only [Act.put, List.setIfInBounds_toArray, List.set_cons_zero, List.set_cons_succ]
  refine wpQ_run rfl (.bool true) (fun w hw => by simp [go_sem]) ?_
  simp only [Act.put, List.setIfInBounds_toArray, List.set_cons_zero, List.set_cons_succ]
  refine wpQ_run rfl (.bool true) (fun w hw => by simp [go_sem]) ?_
  simp only [Act.put, List.setIfInBounds_toArray, List.set_cons_zero, List.set_cons_succ]
  refine wpQ_run rfl (.bool true) (fun w hw => by simp [go_sem]) ?_
  simp only [Act.put, List.setIfInBounds_toArray, List.set_cons_zero, List.set_cons_succ]
  intro v5 bv5
  replace hO := hO.after bv5
  replace hB := hB.trans (bv5.mono hS)
  replace hS := Nat.le_trans hS bv5.size
  clear bv5
  clear hO c0 c1 c31
  go_wp2_with fail
  go_ret
  exact ⟨rfl, hB⟩
set_option linter.unusedSimpArgs false in
set_option maxRecDepth 100000 in
set_option maxHeartbeats 20000000 in
theorem get_bad (a : Option Addr) (len cap : Nat) (er : Int) (w : World) (hne : (len : Int) ≠ 32) (hg : ∀ w : World, Calls Try.prog 28 #[.slice a len cap] w fun e w' => e = .returned (.tuple #[.agg (gArr L5.zero.at), .int .i64 er]) ∧ Below w.heap.size w w') : Calls Try.prog 10 #[.slice a len cap] w fun e w' => e = .returned (.tuple #[.agg (pArr L5.zero L5.zero L5.zero L5.zero), .int .i64 er]) ∧ Below w.heap.size w w' := by
  have HG := Lib.hid hg
  clear hg
  go_enter Try.func10, Try.ntmps10
  go_upto_region 2 with fail
  have hR : Box (w.alloc (.cells #[.int .u64 0, .int .u64 0, .int .u64 0, .int .u64 0, .int .u64 0, .int .u64 0, .int .u64 0, .int .u64 0, .int .u64 0, .int .u64 0, .int .u64 0, .int .u64 0, .int .u64 0, .int .u64 0, .int .u64 0, .int .u64 0, .int .u64 0, .int .u64 0, .int .u64 0, .int .u64 0] 29)) w.heap.size 29 #[.int .u64 0, .int .u64 0, .int .u64 0, .int .u64 0, .int .u64 0, .int .u64 0, .int .u64 0, .int .u64 0, .int .u64 0, .int .u64 0, .int .u64 0, .int .u64 0, .int .u64 0, .int .u64 0, .int .u64 0, .int .u64 0, .int .u64 0, .int .u64 0, .int .u64 0, .int .u64 0] := Box.new _ _ _
  have lR : w.heap.size ≤ w.heap.size := Nat.le_refl _
  have hB : Below w.heap.size w (w.alloc (.cells #[.int .u64 0, .int .u64 0, .int .u64 0, .int .u64 0, .int .u64 0, .int .u64 0, .int .u64 0, .int .u64 0, .int .u64 0, .int .u64 0, .int .u64 0, .int .u64 0, .int .u64 0, .int .u64 0, .int .u64 0, .int .u64 0, .int .u64 0, .int .u64 0, .int .u64 0, .int .u64 0] 29)) := (Below.refl w.heap.size w).alloc (by simp) _
  have hS := hB.size
  change Code.wp _ _ _ _ (w.alloc (.cells #[.int .u64 0, .int .u64 0, .int .u64 0, .int .u64 0, .int .u64 0, .int .u64 0, .int .u64 0, .int .u64 0, .int .u64 0, .int .u64 0, .int .u64 0, .int .u64 0, .int .u64 0, .int .u64 0, .int .u64 0, .int .u64 0, .int .u64 0, .int .u64 0, .int .u64 0, .int .u64 0] 29))
  generalize (w.alloc (.cells #[.int .u64 0, .int .u64 0, .int .u64 0, .int .u64 0, .int .u64 0, .int .u64 0, .int .u64 0, .int .u64 0, .int .u64 0, .int .u64 0, .int .u64 0, .int .u64 0, .int .u64 0, .int .u64 0, .int .u64 0, .int .u64 0, .int .u64 0, .int .u64 0, .int .u64 0, .int .u64 0] 29)) = v0 at *
  go_step
  refine wpList_value rfl (.slice a len cap) (by simp [go_sem]) ?_
  simp only [Act.put, List.setIfInBounds_toArray, List.set_cons_zero, List.set_cons_succ]
  refine wpList_made_call rfl 28 #[.slice a len cap] (by simp [go_sem]) _ (HG.out _) ?_
  intro v1 bv1
  simp only [Act.put, List.setIfInBounds_toArray, List.set_cons_zero, List.set_cons_succ]
  replace hR := hR.after bv1
  replace hB := hB.trans (bv1.mono hS)
  replace hS := Nat.le_trans hS bv1.size
  clear bv1
  refine wpList_value rfl (.tuple #[.agg (gArr L5.zero.at), .int .i64 er]) (by simp [go_sem]) ?_
  simp only [Act.put, List.setIfInBounds_toArray, List.set_cons_zero, List.set_cons_succ]
  refine wpList_value rfl (.agg (gArr L5.zero.at)) (by simp [go_sem]) ?_
  simp only [Act.put, List.setIfInBounds_toArray, List.set_cons_zero, List.set_cons_succ]
  refine wpList_value rfl (.int .i64 er) (by simp [go_sem]) ?_
  simp only [Act.put, List.setIfInBounds_toArray, List.set_cons_zero, List.set_cons_succ]
  refine wpList_new rfl 27 rfl #[.int .u64 0, .int .u64 0, .int .u64 0, .int .u64 0, .int .u64 0] (by intro w; simp [go_sem]) ?_
  intro gY v2 hY lY bv2
  simp only [Act.put, List.setIfInBounds_toArray, List.set_cons_zero, List.set_cons_succ]
  have n_R_Y := hR.before lY
  have n_Y_R := hR.behind lY
  replace lY := Nat.le_trans hS lY
  replace hR := hR.after bv2
  replace hB := hB.trans (bv2.mono hS)
  replace hS := Nat.le_trans hS bv2.size
  clear bv2
  refine wpList_store_box (cells := gArr L5.zero.at) rfl 27 (.tmp 4) (.tmp 20) rfl hY (by rfl) (by rfl) (by rw [gArr_size]; rfl) (by rw [gArr_size]; kernel_rfl) (gArr_one _) ?_
  intro v3 hY_ stv3
  simp only [Act.put]
  replace hR := stv3.box hR n_R_Y
  replace hB := stv3.below w.heap.size w lY hB
  replace hS := Nat.le_trans hS (Nat.le_of_eq stv3.size.symm)
  clear hY stv3
  have hY := hY_
  clear hY_
  refine wpList_value rfl (.int .i64 er) (by simp [go_sem]) ?_
  simp only [Act.put, List.setIfInBounds_toArray, List.set_cons_zero, List.set_cons_succ]
  clear hY
  go_upto_region 3 with fail
  go_step
  refine wpList_value rfl (.agg (pArr L5.zero L5.zero L5.zero L5.zero)) (by simp [go_sem, ptz]) ?_
  simp only [Act.put, List.setIfInBounds_toArray, List.set_cons_zero, List.set_cons_succ]
  refine wpList_value rfl (.int .i64 er) (by simp [go_sem]) ?_
  simp only [Act.put, List.setIfInBounds_toArray, List.set_cons_zero, List.set_cons_succ]
  refine wpList_store_box (cells := pArr L5.zero L5.zero L5.zero L5.zero) rfl 29 (.tmp 2) (.tmp 22) rfl hR (by rfl) (by rfl) (by rw [pArr_size L5.zero L5.zero L5.zero L5.zero]; rfl) (by rw [pArr_size L5.zero L5.zero L5.zero L5.zero]; kernel_rfl) (pArr_one _ _ _ _) ?_
  intro v4 hR_ stv4
  simp only [Act.put]
  replace hB := stv4.below w.heap.size w lR hB
  replace hS := Nat.le_trans hS (Nat.le_of_eq stv4.size.symm)
  clear hR stv4
  have hR := hR_
  clear hR_
  refine wpList_value rfl (.int .i64 er) (by simp [go_sem]) ?_
  simp only [Act.put, List.setIfInBounds_toArray, List.set_cons_zero, List.set_cons_succ]
  obtain ⟨G, hG⟩ : ∃ G, G = pArr L5.zero L5.zero L5.zero L5.zero := ⟨_, rfl⟩
  rw [← hG] at hR
  have HGS := Lib.hid (show G.size = 20 by rw [hG]; exact pArr_size L5.zero L5.zero L5.zero L5.zero)
  have HGE := Lib.hid hG
  clear hG
  go_wp2_with fail
  exact bodyPost_ret (v := .tuple #[.agg G, .int .i64 er]) (box_result2 (p := 2) (q := 3) rfl _ _ (by rfl) hR Try.underlying29 rfl (by rw [HGS.out]; kernel_rfl)) rfl ⟨by rw [HGE.out], hB⟩
set_option linter.unusedSimpArgs false in
set_option maxRecDepth 100000 in
set_option maxHeartbeats 20000000 in
theorem PointGets_walk (a0 : Option Addr) (len0 cap0 : Nat) (z0 : List Int) (w : World) (w0 : IsRow .u8 w a0 len0 cap0 z0) : Calls Try.prog 3 #[.slice a0 len0 cap0] w fun e w' => e = .returned (.bool true) ∧ Below w.heap.size w w' := by
  obtain ⟨l0, s0⟩ := w0.sl
  clear w0
  have hB : Below w.heap.size w w := Below.refl _ _
  have hS : w.heap.size ≤ w.heap.size := Nat.le_refl _
  by_cases h100 : (100 : Int) < len0
  · go_enter Try.func3, Try.ntmps3
    go_wp2_with fail
    refine (awake7_any _).mono ?_
    rintro e w9 ⟨rfl, hb9⟩
    have hB9 := hB.trans (hb9.mono hB.size)
    clear hb9 hB hS
    go_wp2_with fail
    go_ret
    exact ⟨rfl, hB9⟩
  rcases Nat.lt_trichotomy len0 32 with h32 | h32 | h32
  · have HG := Lib.hid (fun w : World => get_bad a0 len0 cap0 2 w (by omega) (fun w => get_short a0 len0 cap0 w h32))
    have i32 : (len0 : Int) < 32 ∨ (32 : Int) < len0 := by omega
    go_enter Try.func3, Try.ntmps3
    go_upto_region 3 with fail
    go_step
    refine wpList_value rfl (.slice a0 len0 cap0) (by simp [go_sem]) ?_
    simp only [Act.put, List.setIfInBounds_toArray, List.set_cons_zero, List.set_cons_succ]
    refine wpList_made_call rfl 10 #[.slice a0 len0 cap0] (by simp [go_sem]) _ (HG.out _) ?_
    intro v1 bv1
    simp only [Act.put, List.setIfInBounds_toArray, List.set_cons_zero, List.set_cons_succ]
    replace hB := hB.trans (bv1.mono hS)
    replace hS := Nat.le_trans hS bv1.size
    clear bv1
    refine wpList_value rfl (.tuple #[.agg (pArr L5.zero L5.zero L5.zero L5.zero), .int .i64 2]) (by simp [go_sem]) ?_
    simp only [Act.put, List.setIfInBounds_toArray, List.set_cons_zero, List.set_cons_succ]
    refine wpList_value rfl (.agg (pArr L5.zero L5.zero L5.zero L5.zero)) (by simp [go_sem]) ?_
    simp only [Act.put, List.setIfInBounds_toArray, List.set_cons_zero, List.set_cons_succ]
    refine wpList_value rfl (.int .i64 2) (by simp [go_sem]) ?_
    simp only [Act.put, List.setIfInBounds_toArray, List.set_cons_zero, List.set_cons_succ]
    refine wpList_new rfl 29 rfl #[.int .u64 0, .int .u64 0, .int .u64 0, .int .u64 0, .int .u64 0, .int .u64 0, .int .u64 0, .int .u64 0, .int .u64 0, .int .u64 0, .int .u64 0, .int .u64 0, .int .u64 0, .int .u64 0, .int .u64 0, .int .u64 0, .int .u64 0, .int .u64 0, .int .u64 0, .int .u64 0] (by intro w; simp [go_sem]) ?_
    intro gP v2 hP lP bv2
    simp only [Act.put, List.setIfInBounds_toArray, List.set_cons_zero, List.set_cons_succ]
    replace lP := Nat.le_trans hS lP
    replace hB := hB.trans (bv2.mono hS)
    replace hS := Nat.le_trans hS bv2.size
    clear bv2
    refine wpList_store_box (cells := pArr L5.zero L5.zero L5.zero L5.zero) rfl 29 (.tmp 3) (.tmp 15) rfl hP (by rfl) (by rfl) (by rw [pArr_size L5.zero L5.zero L5.zero L5.zero]; rfl) (by rw [pArr_size L5.zero L5.zero L5.zero L5.zero]; kernel_rfl) (pArr_one _ _ _ _) ?_
    intro v3 hP_ stv3
    simp only [Act.put]
    replace hB := stv3.below w.heap.size w lP hB
    replace hS := Nat.le_trans hS (Nat.le_of_eq stv3.size.symm)
    clear hP stv3
    have hP := hP_
    clear hP_
    refine wpList_value rfl (.int .i64 2) (by simp [go_sem]) ?_
    simp only [Act.put, List.setIfInBounds_toArray, List.set_cons_zero, List.set_cons_succ]
    clear hP
    go_wp2_with fail
    refine (awake7_any _).mono ?_
    rintro e w9 ⟨rfl, hb9⟩
    have hB9 := hB.trans (hb9.mono hB.size)
    clear hb9 hB hS
    go_wp2_with fail
    go_ret
    exact ⟨rfl, hB9⟩
  · subst h32
    obtain ⟨r, q, hr, hq, hl⟩ : ∃ r q, r < 2 ^ 255 ∧ q < 2 ∧ l0 = leBytes (r + 2 ^ 255 * q) 32 := by
      have h1 := bytes_of l0
      have h2 := leNat_lt l0
      rw [show l0.length = 32 from s0.1.symm] at h1 h2
      refine ⟨leNat l0 % 2 ^ 255, leNat l0 / 2 ^ 255, Nat.mod_lt _ (by simp only [Nat.reducePow]; omega), by simp only [Nat.reducePow] at *; omega, ?_⟩
      rw [Nat.mod_add_div]
      exact h1
    subst hl
    have HGP := Lib.hid (fun (w : World) (h : Sl w a0 32 cap0 (leBytes (r + 2 ^ 255 * q) 32)) => get_pt r q hr hq a0 cap0 w h)
    have HGR := Lib.hid (fun (w : World) (h : Sl w a0 32 cap0 (leBytes (r + 2 ^ 255 * q) 32)) => refGet_pt r q hr hq a0 cap0 w h)
    unfold RetGet at HGP
    unfold RetGetR at HGR
    have HPN := Lib.hid (pN_get r q hq)
    obtain ⟨ok, hok⟩ : ∃ ok, ok = getOk r q := ⟨_, rfl⟩
    rw [← hok] at HGP HGR HPN
    obtain ⟨er, her⟩ : ∃ er : Int, er = bif ok then 0 else 8 := ⟨_, rfl⟩
    rw [← her] at HGP
    have HER := Lib.hid her
    clear hr hq hok her
    generalize getX r q = X at *
    obtain ⟨n, hn⟩ : ∃ n, n = r + 2 ^ 255 * q := ⟨_, rfl⟩
    rw [← hn] at s0 HPN HGP HGR
    clear hn
    go_enter Try.func3, Try.ntmps3
    go_upto_region 3 with fail
    go_step
    refine wpList_value rfl (.slice a0 32 cap0) (by simp [go_sem]) ?_
    simp only [Act.put, List.setIfInBounds_toArray, List.set_cons_zero, List.set_cons_succ]
    refine wpList_enterR rfl 10 #[.slice a0 32 cap0] (by simp [go_sem]) _ (HGP.out _ s0) ?_
    rintro e v1 ⟨x, y, z, t, rfl, hel, bv1⟩
    refine ⟨_, rfl, ?_⟩
    simp only [Act.put, List.setIfInBounds_toArray, List.set_cons_zero, List.set_cons_succ]
    replace hB := hB.trans (bv1.mono hS)
    replace hS := Nat.le_trans hS bv1.size
    clear bv1
    have hsl := fun w' (h : Below w.heap.size w w') => s0.after h
    have HSL := Lib.hid hsl
    have HEL := Lib.hid hel
    clear hel hsl
    refine wpList_value rfl (.tuple #[.agg (pArr x y z t), .int .i64 er]) (by simp [go_sem]) ?_
    simp only [Act.put, List.setIfInBounds_toArray, List.set_cons_zero, List.set_cons_succ]
    refine wpList_value rfl (.agg (pArr x y z t)) (by simp [go_sem]) ?_
    simp only [Act.put, List.setIfInBounds_toArray, List.set_cons_zero, List.set_cons_succ]
    refine wpList_value rfl (.int .i64 er) (by simp [go_sem]) ?_
    simp only [Act.put, List.setIfInBounds_toArray, List.set_cons_zero, List.set_cons_succ]
    refine wpList_new rfl 29 rfl #[.int .u64 0, .int .u64 0, .int .u64 0, .int .u64 0, .int .u64 0, .int .u64 0, .int .u64 0, .int .u64 0, .int .u64 0, .int .u64 0, .int .u64 0, .int .u64 0, .int .u64 0, .int .u64 0, .int .u64 0, .int .u64 0, .int .u64 0, .int .u64 0, .int .u64 0, .int .u64 0] (by intro w; simp [go_sem]) ?_
    intro gP v2 hP lP bv2
    simp only [Act.put, List.setIfInBounds_toArray, List.set_cons_zero, List.set_cons_succ]
    replace lP := Nat.le_trans hS lP
    replace hB := hB.trans (bv2.mono hS)
    replace hS := Nat.le_trans hS bv2.size
    clear bv2
    refine wpList_store_box (cells := pArr x y z t) rfl 29 (.tmp 3) (.tmp 15) rfl hP (by rfl) (by rfl) (by rw [pArr_size x y z t]; rfl) (by rw [pArr_size x y z t]; kernel_rfl) (pArr_one _ _ _ _) ?_
    intro v3 hP_ stv3
    simp only [Act.put]
    replace hB := stv3.below w.heap.size w lP hB
    replace hS := Nat.le_trans hS (Nat.le_of_eq stv3.size.symm)
    clear hP stv3
    have hP := hP_
    clear hP_
    refine wpList_value rfl (.int .i64 er) (by simp [go_sem]) ?_
    simp only [Act.put, List.setIfInBounds_toArray, List.set_cons_zero, List.set_cons_succ]
    go_upto_region 8 with fail
    go_step
    refine wpList_value rfl (.slice a0 32 cap0) (by simp [go_sem]) ?_
    simp only [Act.put, List.setIfInBounds_toArray, List.set_cons_zero, List.set_cons_succ]
    refine wpList_enterR rfl 11 #[.slice a0 32 cap0] (by simp [go_sem]) _ (HGR.out _ (HSL.out _ hB)) ?_
    rintro e v4 ⟨u, v, mm, rfl, hq, hu, hv, hm, bv4⟩
    refine ⟨_, rfl, ?_⟩
    simp only [Act.put, List.setIfInBounds_toArray, List.set_cons_zero, List.set_cons_succ]
    replace hP := hP.after bv4
    replace hB := hB.trans (bv4.mono hS)
    replace hS := Nat.le_trans hS bv4.size
    clear bv4
    have HQ := Lib.hid hq
    have HUV := Lib.hid (And.intro hu (And.intro hv hm))
    clear hq hu hv hm
    refine wpList_value rfl (.tuple #[.agg (qArr u v mm), .bool ok]) (by simp [go_sem]) ?_
    simp only [Act.put, List.setIfInBounds_toArray, List.set_cons_zero, List.set_cons_succ]
    refine wpList_value rfl (.agg (qArr u v mm)) (by simp [go_sem]) ?_
    simp only [Act.put, List.setIfInBounds_toArray, List.set_cons_zero, List.set_cons_succ]
    refine wpList_value rfl (.bool ok) (by simp [go_sem]) ?_
    simp only [Act.put, List.setIfInBounds_toArray, List.set_cons_zero, List.set_cons_succ]
    refine wpList_new rfl 36 rfl (Array.replicate 48 (Value.int .u64 0)) (by intro w; simp [go_sem]; rfl) ?_
    intro gQ v5 hQ lQ bv5
    simp only [Act.put, List.setIfInBounds_toArray, List.set_cons_zero, List.set_cons_succ]
    have n_P_Q := hP.before lQ
    have n_Q_P := hP.behind lQ
    replace lQ := Nat.le_trans hS lQ
    replace hP := hP.after bv5
    replace hB := hB.trans (bv5.mono hS)
    replace hS := Nat.le_trans hS bv5.size
    clear bv5
    refine wpList_store_box (cells := qArr u v mm) rfl 36 (.tmp 5) (.tmp 36) rfl hQ (by rfl) (by rfl) (by rw [qArr_size u v mm]; rfl) (by rw [qArr_size u v mm]; kernel_rfl) (qArr_one _ _ _) ?_
    intro v6 hQ_ stv6
    simp only [Act.put]
    replace hP := stv6.box hP n_P_Q
    replace hB := stv6.below w.heap.size w lQ hB
    replace hS := Nat.le_trans hS (Nat.le_of_eq stv6.size.symm)
    clear hQ stv6
    have hQ := hQ_
    clear hQ_
    refine wpList_value rfl (.bool ok) (by simp [go_sem]) ?_
    simp only [Act.put, List.setIfInBounds_toArray, List.set_cons_zero, List.set_cons_succ]
    cases ok with
    | false =>
      obtain rfl : er = 8 := HER.out
      clear hP hQ
      go_wp2_with fail
      refine (awake7_any _).mono ?_
      rintro e w9 ⟨rfl, hb9⟩
      have hB9 := hB.trans (hb9.mono hB.size)
      clear hb9 hB hS
      go_wp2_with fail
      go_ret
      exact ⟨rfl, hB9⟩
    | true =>
      obtain rfl : er = 0 := HER.out
      obtain ⟨rfl, rfl, rfl⟩ : u = X ∧ v = r ∧ mm = 1 := HQ.out rfl
      have HBT := Lib.hid (fun w : World => ptBytes_any x y z t u v 1 (HEL.out rfl).1 (HEL.out rfl).2.1 (HEL.out rfl).2.2.1 w)
      have HSM := Lib.hid (fun w : World => same7_any x y z t u v 1 u v 1 (HEL.out rfl).1 (HEL.out rfl).2.1 (HEL.out rfl).2.2.1 HUV.out.1 HUV.out.2.1 HUV.out.2.2 w)
      rw [HPN.out rfl] at HBT
      rw [beq_self_eq_true] at HSM
      go_upto_region 11 with fail
      go_step
      refine wpList_load_box rfl 29 _ rfl hP (by rfl) Try.underlying29 rfl (by rw [pArr_size x y z t]; kernel_rfl) ?_
      simp only [Act.put, List.setIfInBounds_toArray, List.set_cons_zero, List.set_cons_succ]
      refine wpList_made_call rfl 12 #[.agg (pArr x y z t)] (by simp [go_sem]) _ (HBT.out _) ?_
      intro v7 bv7
      simp only [Act.put, List.setIfInBounds_toArray, List.set_cons_zero, List.set_cons_succ]
      replace hP := hP.after bv7
      replace hQ := hQ.after bv7
      replace hB := hB.trans (bv7.mono hS)
      replace hS := Nat.le_trans hS bv7.size
      clear bv7
      refine wpList_new rfl 39 rfl (Array.replicate 32 (Value.int .u8 0)) (by intro w; simp [go_sem]; rfl) ?_
      intro gO v8 hO lO bv8
      simp only [Act.put, List.setIfInBounds_toArray, List.set_cons_zero, List.set_cons_succ]
      have n_P_O := hP.before lO
      have n_O_P := hP.behind lO
      have n_Q_O := hQ.before lO
      have n_O_Q := hQ.behind lO
      replace lO := Nat.le_trans hS lO
      replace hP := hP.after bv8
      replace hQ := hQ.after bv8
      replace hB := hB.trans (bv8.mono hS)
      replace hS := Nat.le_trans hS bv8.size
      clear bv8
      refine wpList_store_box (cells := bts n) rfl 39 (.tmp 7) (.tmp 46) rfl hO (by rfl) (by rfl) (by rw [bts_size]; rfl) (by rw [bts_size]; kernel_rfl) (bts_one _) ?_
      intro v9 hO_ stv9
      simp only [Act.put]
      replace hP := stv9.box hP n_P_O
      replace hQ := stv9.box hQ n_Q_O
      replace hB := stv9.below w.heap.size w lO hB
      replace hS := Nat.le_trans hS (Nat.le_of_eq stv9.size.symm)
      clear hO stv9
      have hO := hO_
      clear hO_
      have HC1 := Lib.hid (fun w' (h : Below v9.heap.size v9 w') => conv_sl (bts_sl (hO.after h)))
      have HC2 := Lib.hid (fun w' (h : Below v9.heap.size v9 w') => conv_sl (HSL.out w' (hB.trans (h.mono hS))))
      go_upto_region 12 with fail
      refine wp_region_made v9.heap.size v9 rfl (by kernel_rfl) (Below.refl _ _) ?_
      refine wpQ_run rfl (.int .i64 0) (fun w hw => by simp [go_sem]) ?_
      simp only [Act.put, List.setIfInBounds_toArray, List.set_cons_zero, List.set_cons_succ]
      refine wpQ_run rfl (.bool true) (fun w hw => by simp [go_sem]) ?_
      simp only [Act.put, List.setIfInBounds_toArray, List.set_cons_zero, List.set_cons_succ]
      refine wpQ_run rfl (.bool true) (fun w hw => by simp [go_sem]) ?_
      simp only [Act.put, List.setIfInBounds_toArray, List.set_cons_zero, List.set_cons_succ]
      refine wpQ_load_box rfl 29 _ rfl hP (by rfl) hP.lt Try.underlying29 rfl (by rw [pArr_size x y z t]; kernel_rfl) ?_
      simp only [Act.put, List.setIfInBounds_toArray, List.set_cons_zero, List.set_cons_succ]
      refine wpQ_load_box rfl 36 _ rfl hQ (by rfl) hQ.lt Try.underlying36 rfl (by rw [qArr_size u v 1]; kernel_rfl) ?_
      simp only [Act.put, List.setIfInBounds_toArray, List.set_cons_zero, List.set_cons_succ]
      refine wpQ_call rfl 13 #[.agg (pArr x y z t), .agg (qArr u v 1)] (fun w => by simp [go_sem]) _ (Nat.le_refl _) (HSM.out) ?_
      simp only [Act.put, List.setIfInBounds_toArray, List.set_cons_zero, List.set_cons_succ]
      refine wpQ_run rfl (.bool true) (fun w hw => by simp [go_sem]) ?_
      simp only [Act.put, List.setIfInBounds_toArray, List.set_cons_zero, List.set_cons_succ]
      refine wpQ_run rfl (.bool true) (fun w hw => by simp [go_sem]) ?_
      simp only [Act.put, List.setIfInBounds_toArray, List.set_cons_zero, List.set_cons_succ]
      refine wpQ_run rfl (.slice (some ⟨gO, 0, none⟩) 32 32) (fun w hw => by simp [go_sem]) ?_
      simp only [Act.put, List.setIfInBounds_toArray, List.set_cons_zero, List.set_cons_succ]
      refine wpQ_run rfl (.string ⟨(leBytes n 32).toArray⟩) (fun w hw => by simp [go_sem, HC1.out w hw]) ?_
      simp only [Act.put, List.setIfInBounds_toArray, List.set_cons_zero, List.set_cons_succ]
      refine wpQ_run rfl (.slice a0 32 cap0) (fun w hw => by simp [go_sem]) ?_
      simp only [Act.put, List.setIfInBounds_toArray, List.set_cons_zero, List.set_cons_succ]
      refine wpQ_run rfl (.string ⟨(leBytes n 32).toArray⟩) (fun w hw => by simp [go_sem, HC2.out w hw]) ?_
      simp only [Act.put, List.setIfInBounds_toArray, List.set_cons_zero, List.set_cons_succ]
      refine wpQ_run rfl (.bool true) (fun w hw => by simp [go_sem]) ?_
      simp only [Act.put, List.setIfInBounds_toArray, List.set_cons_zero, List.set_cons_succ]
      refine wpQ_run rfl (.bool true) (fun w hw => by simp [go_sem]) ?_
      simp only [Act.put, List.setIfInBounds_toArray, List.set_cons_zero, List.set_cons_succ]
      refine wpQ_run rfl (.bool true) (fun w hw => by simp [go_sem]) ?_
      simp only [Act.put, List.setIfInBounds_toArray, List.set_cons_zero, List.set_cons_succ]
      refine wpQ_call rfl 9 #[] (fun w => by simp [go_sem]) _ (Nat.le_refl _) (awake7_any) ?_
      simp only [Act.put, List.setIfInBounds_toArray, List.set_cons_zero, List.set_cons_succ]
      refine wpQ_run rfl (.bool true) (fun w hw => by simp [go_sem]) ?_
      simp only [Act.put, List.setIfInBounds_toArray, List.set_cons_zero, List.set_cons_succ]
      refine wpQ_run rfl (.bool true) (fun w hw => by simp [go_sem]) ?_
      simp only [Act.put, List.setIfInBounds_toArray, List.set_cons_zero, List.set_cons_succ]
      intro v10 bv10
      replace hP := hP.after bv10
      replace hQ := hQ.after bv10
      replace hO := hO.after bv10
      replace hB := hB.trans (bv10.mono hS)
      replace hS := Nat.le_trans hS bv10.size
      clear bv10
      clear hP hQ hO
      go_wp2_with fail
      go_ret
      exact ⟨rfl, hB⟩
  · have HG := Lib.hid (fun w : World => get_bad a0 len0 cap0 4 w (by omega) (fun w => get_long a0 len0 cap0 w h32))
    have i32 : (len0 : Int) < 32 ∨ (32 : Int) < len0 := by omega
    go_enter Try.func3, Try.ntmps3
    go_upto_region 3 with fail
    go_step
    refine wpList_value rfl (.slice a0 len0 cap0) (by simp [go_sem]) ?_
    simp only [Act.put, List.setIfInBounds_toArray, List.set_cons_zero, List.set_cons_succ]
    refine wpList_made_call rfl 10 #[.slice a0 len0 cap0] (by simp [go_sem]) _ (HG.out _) ?_
    intro v1 bv1
    simp only [Act.put, List.setIfInBounds_toArray, List.set_cons_zero, List.set_cons_succ]
    replace hB := hB.trans (bv1.mono hS)
    replace hS := Nat.le_trans hS bv1.size
    clear bv1
    refine wpList_value rfl (.tuple #[.agg (pArr L5.zero L5.zero L5.zero L5.zero), .int .i64 4]) (by simp [go_sem]) ?_
    simp only [Act.put, List.setIfInBounds_toArray, List.set_cons_zero, List.set_cons_succ]
    refine wpList_value rfl (.agg (pArr L5.zero L5.zero L5.zero L5.zero)) (by simp [go_sem]) ?_
    simp only [Act.put, List.setIfInBounds_toArray, List.set_cons_zero, List.set_cons_succ]
    refine wpList_value rfl (.int .i64 4) (by simp [go_sem]) ?_
    simp only [Act.put, List.setIfInBounds_toArray, List.set_cons_zero, List.set_cons_succ]
    refine wpList_new rfl 29 rfl #[.int .u64 0, .int .u64 0, .int .u64 0, .int .u64 0, .int .u64 0, .int .u64 0, .int .u64 0, .int .u64 0, .int .u64 0, .int .u64 0, .int .u64 0, .int .u64 0, .int .u64 0, .int .u64 0, .int .u64 0, .int .u64 0, .int .u64 0, .int .u64 0, .int .u64 0, .int .u64 0] (by intro w; simp [go_sem]) ?_
    intro gP v2 hP lP bv2
    simp only [Act.put, List.setIfInBounds_toArray, List.set_cons_zero, List.set_cons_succ]
    replace lP := Nat.le_trans hS lP
    replace hB := hB.trans (bv2.mono hS)
    replace hS := Nat.le_trans hS bv2.size
    clear bv2
    refine wpList_store_box (cells := pArr L5.zero L5.zero L5.zero L5.zero) rfl 29 (.tmp 3) (.tmp 15) rfl hP (by rfl) (by rfl) (by rw [pArr_size L5.zero L5.zero L5.zero L5.zero]; rfl) (by rw [pArr_size L5.zero L5.zero L5.zero L5.zero]; kernel_rfl) (pArr_one _ _ _ _) ?_
    intro v3 hP_ stv3
    simp only [Act.put]
    replace hB := stv3.below w.heap.size w lP hB
    replace hS := Nat.le_trans hS (Nat.le_of_eq stv3.size.symm)
    clear hP stv3
    have hP := hP_
    clear hP_
    refine wpList_value rfl (.int .i64 4) (by simp [go_sem]) ?_
    simp only [Act.put, List.setIfInBounds_toArray, List.set_cons_zero, List.set_cons_succ]
    clear hP
    go_wp2_with fail
    refine (awake7_any _).mono ?_
    rintro e w9 ⟨rfl, hb9⟩
    have hB9 := hB.trans (hb9.mono hB.size)
    clear hb9 hB hS
    go_wp2_with fail
    go_ret
    exact ⟨rfl, hB9⟩
end Go.Proofs.Ytpkoniebbkkmjaa

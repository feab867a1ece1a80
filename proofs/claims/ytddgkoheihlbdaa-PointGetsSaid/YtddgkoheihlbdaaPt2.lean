/- Points: their bytes, and the document's. -/
import Derived.Test.YtddgkoheihlbdaaPt1
import Derived.Test.YtddgkoheihlbdaaFldRef4o
namespace Go.Proofs.Ytddgkoheihlbdaa
open Go.RowKit
attribute [local irreducible] fi dN xx rtN rtOk pw

def pN (u v n : Nat) : Nat := fm v (fi n) + 2 ^ 255 * (fm u (fi n) % 2)
theorem P25_255 {n : Nat} (h : n < P25) : n < 2 ^ 255 := by
  unfold P25 at h
  simp only [Nat.reducePow]
  omega
theorem pN_lt (u v n : Nat) : pN u v n < 256 ^ 32 := by
  have h1 := P25_255 (fm_lt v (fi n))
  unfold pN
  generalize fm v (fi n) = a at *
  generalize fm u (fi n) = b at *
  simp only [Nat.reducePow] at *
  omega
theorem own_open {w : World} {B e n : Nat} {v : Value} (h : w.ownsRow B e 1 v 32 (Lib.byteCells (leBytes n 32))) : ∃ g cap cur, v = .slice (some ⟨g, 0, none⟩) 32 cap ∧ B ≤ g ∧ Box w g e cur ∧ 32 ≤ cap ∧ cap ≤ maxLen ∧ ∀ j, j < 32 → cur[j]? = some (.int .u8 (n / 256 ^ j % 256 : Nat)) := by
  rcases h.2 with ⟨_, h0⟩ | ⟨g, cap, cur, rfl, hg, hb, hn, hm, hs, ht⟩
  · cases h0
  · refine ⟨g, cap, cur, rfl, hg, hb, hn, hm, fun j hj => ?_⟩
    have h1 : (cur.toList.take 32)[j]? = (Lib.byteCells (leBytes n 32))[j]? := by rw [← ht]
    rw [List.getElem?_take_of_lt hj] at h1
    rw [← Array.getElem?_toList, h1]
    simp [Lib.byteCells, leBytes, hj]
theorem sl_cells {w : World} {g e cap n : Nat} {cur : Array Value} (hb : Box w g e cur) (h1 : 32 ≤ cap) (h2 : cap ≤ maxLen) (h : ∀ j, j < 32 → cur[j]? = some (.int .u8 (n / 256 ^ j % 256 : Nat))) : Sl w (some ⟨g, 0, none⟩) 32 cap (leBytes n 32) := by
  refine ⟨by rw [leBytes_len], h1, h2, (fun h => by cases h), .inr ⟨g, 0, rfl, fun i hi => ?_⟩⟩
  rw [Nat.zero_add]
  refine hb.cell i ?_
  rw [h i hi]
  simp [leBytes, List.getD_eq_getElem?_getD, hi]
theorem cells_top {cur : Array Value} {r q p : Nat} (hr : r < 2 ^ 255) (hp : p < 2) (h : ∀ j, j < 32 → cur[j]? = some (.int .u8 ((r + 2 ^ 255 * q) / 256 ^ j % 256 : Nat))) :
    ∀ j, j < 32 → (cur.setIfInBounds 31 (.int .u8 (r / 256 ^ 31 + 128 * p : Nat)))[j]? = some (.int .u8 ((r + 2 ^ 255 * p) / 256 ^ j % 256 : Nat)) := fun j hj => by
  have hs : 31 < cur.size := by
    rcases Nat.lt_or_ge 31 cur.size with h' | h'
    · exact h'
    · have := h 31 (by omega); simp [Array.getElem?_eq_none h'] at this
  by_cases h31 : 31 = j
  · subst h31
    rw [Array.getElem?_setIfInBounds_self, if_pos hs, top_byte r p hr hp]
  · rw [Array.getElem?_setIfInBounds_ne h31, h j hj, low_same r q j (by omega), low_same r p j (by omega)]
set_option maxRecDepth 100000 in
theorem index_f (m : Nat) (w : World) : (Instr.index 34 (.agg (fArr (dig m))) (.int .i64 0)).run Try.prog w = .ok (.int .u64 (dig m 0 : Nat)) w := by
  rw [fArr_lit]
  simp [go_sem, Instr.index, part]
theorem or_top (c : Nat) (h : c < 128) : bits .or .u8 (c : Int) 128 = ((c + 128 : Nat) : Int) := by
  have h1 : ∀ c, c < 128 → c ||| 128 = c + 128 := by decide +kernel
  have := u8_or_nat c 128 (by omega) (by omega)
  rw [h1 c h] at this
  exact this
set_option maxRecDepth 100000 in
set_option maxHeartbeats 2000000 in
theorem ptBytes_any (x y z t : L5) (X Y Z : Nat) (hx : El x X) (hy : El y Y) (hz : El z Z) (w : World) : Calls Try.prog 47 #[.agg (pArr x y z t)] w fun e w' => e = .returned (.agg (bts (pN X Y Z))) ∧ Below w.heap.size w w' := by
  have HX := Lib.hid hx
  have HY := Lib.hid hy
  have HI := Lib.hid (fun w : World => inv_fi z Z w hz)
  have hal := P25_255 (fm_lt Y (fi Z))
  unfold pN
  obtain ⟨a, ha⟩ : ∃ a, a = fm Y (fi Z) := ⟨_, rfl⟩
  obtain ⟨b, hb⟩ : ∃ b, b = fm X (fi Z) := ⟨_, rfl⟩
  rw [← ha] at hal ⊢
  rw [← hb]
  have HA := Lib.hid hal
  have HAE := Lib.hid ha
  have HBE := Lib.hid hb
  clear hx hy hz hal ha hb
  go_enter Try.func47, Try.ntmps47
  go_upto_region 1 with fail
  have hP : Box ((w.alloc (.cells (pArr x y z t) 62)).alloc (.cells (Array.replicate 32 (Value.int .u8 0)) 40)) w.heap.size 62 (pArr x y z t) := ((Box.new w 62 (pArr x y z t)).alloc (.cells (Array.replicate 32 (Value.int .u8 0)) 40))
  have lP : w.heap.size ≤ w.heap.size := by omega
  have hR : Box ((w.alloc (.cells (pArr x y z t) 62)).alloc (.cells (Array.replicate 32 (Value.int .u8 0)) 40)) (w.heap.size + 1) 40 (Array.replicate 32 (Value.int .u8 0)) := by
    have := (Box.new (w.alloc (.cells (pArr x y z t) 62)) 40 (Array.replicate 32 (Value.int .u8 0)))
    simp only [World.size_alloc] at this
    exact this
  have lR : w.heap.size ≤ (w.heap.size + 1) := by omega
  have n_P_R : w.heap.size ≠ (w.heap.size + 1) := by omega
  have n_R_P : (w.heap.size + 1) ≠ w.heap.size := by omega
  have hB : Below w.heap.size w ((w.alloc (.cells (pArr x y z t) 62)).alloc (.cells (Array.replicate 32 (Value.int .u8 0)) 40)) := (((Below.refl w.heap.size w).alloc (by simp; try omega) (.cells (pArr x y z t) 62)).alloc (by simp; try omega) (.cells (Array.replicate 32 (Value.int .u8 0)) 40))
  have hS := hB.size
  change Code.wp _ _ _ _ ((w.alloc (.cells (pArr x y z t) 62)).alloc (.cells (Array.replicate 32 (Value.int .u8 0)) 40))
  generalize ((w.alloc (.cells (pArr x y z t) 62)).alloc (.cells (Array.replicate 32 (Value.int .u8 0)) 40)) = v0 at *
  go_step
  refine wpList_value rfl (.pointer (some ⟨w.heap.size, 10, none⟩)) (by simp [go_sem]) ?_
  simp only [Act.put, List.setIfInBounds_toArray, List.set_cons_zero, List.set_cons_succ]
  refine wpList_value rfl (.agg (gArr z.at)) (run_load_mid rfl (pt_z hP) (by rfl) Try.underlying27 rfl (by rw [gArr_size]; kernel_rfl)) ?_
  simp only [Act.put, List.setIfInBounds_toArray, List.set_cons_zero, List.set_cons_succ]
  refine wpList_enterR rfl 40 #[.agg (gArr z.at)] (by simp [go_sem]) _ (HI.out _) ?_
  rintro e v1 ⟨i, rfl, hi, bv1⟩
  refine ⟨_, rfl, ?_⟩
  simp only [Act.put, List.setIfInBounds_toArray, List.set_cons_zero, List.set_cons_succ]
  replace hP := hP.after bv1
  replace hR := hR.after bv1
  replace hB := hB.trans (bv1.mono hS)
  replace hS := Nat.le_trans hS bv1.size
  clear bv1
  have HEI := Lib.hid hi
  clear hi
  refine wpList_new rfl 27 rfl #[.int .u64 0, .int .u64 0, .int .u64 0, .int .u64 0, .int .u64 0] (by intro w; simp [go_sem]) ?_
  intro gI v2 hI lI bv2
  simp only [Act.put, List.setIfInBounds_toArray, List.set_cons_zero, List.set_cons_succ]
  have n_P_I := hP.before lI
  have n_I_P := hP.behind lI
  have n_R_I := hR.before lI
  have n_I_R := hR.behind lI
  replace lI := Nat.le_trans hS lI
  replace hP := hP.after bv2
  replace hR := hR.after bv2
  replace hB := hB.trans (bv2.mono hS)
  replace hS := Nat.le_trans hS bv2.size
  clear bv2
  refine wpList_store_box (cells := gArr i.at) rfl 27 (.tmp 3) (.tmp 7) rfl hI (by rfl) (by rfl) (by rw [gArr_size]; rfl) (by rw [gArr_size]; kernel_rfl) (gArr_one _) ?_
  intro v3 hI_ stv3
  simp only [Act.put]
  replace hP := stv3.box hP n_P_I
  replace hR := stv3.box hR n_R_I
  replace hB := stv3.below w.heap.size w lI hB
  replace hS := Nat.le_trans hS (Nat.le_of_eq stv3.size.symm)
  clear hI stv3
  have hI := hI_
  clear hI_
  have HMY := Lib.hid (fun w : World => mul_el HY.out HEI.out w)
  have HBY := Lib.hid (fun w : World => fbytes (elM HY.out HEI.out) w)
  have HMX := Lib.hid (fun w : World => mul_el HX.out HEI.out w)
  have HOD := Lib.hid (fun w : World => odd_el (elM HX.out HEI.out) w)
  rw [← HAE.out] at HBY
  rw [← HBE.out] at HOD
  go_upto_region 2 with fail
  go_step
  refine wpList_value rfl (.pointer (some ⟨w.heap.size, 5, none⟩)) (by simp [go_sem]) ?_
  simp only [Act.put, List.setIfInBounds_toArray, List.set_cons_zero, List.set_cons_succ]
  refine wpList_value rfl (.agg (gArr y.at)) (run_load_mid rfl (pt_y hP) (by rfl) Try.underlying27 rfl (by rw [gArr_size]; kernel_rfl)) ?_
  simp only [Act.put, List.setIfInBounds_toArray, List.set_cons_zero, List.set_cons_succ]
  refine wpList_load_box rfl 27 _ rfl hI (by rfl) Try.underlying27 rfl (by rw [gArr_size]; kernel_rfl) ?_
  simp only [Act.put, List.setIfInBounds_toArray, List.set_cons_zero, List.set_cons_succ]
  refine wpList_made_call rfl 34 #[.agg (gArr y.at), .agg (gArr i.at)] (by simp [go_sem]) _ (HMY.out _) ?_
  intro v4 bv4
  simp only [Act.put, List.setIfInBounds_toArray, List.set_cons_zero, List.set_cons_succ]
  replace hP := hP.after bv4
  replace hR := hR.after bv4
  replace hI := hI.after bv4
  replace hB := hB.trans (bv4.mono hS)
  replace hS := Nat.le_trans hS bv4.size
  clear bv4
  refine wpList_made_call rfl 60 #[.agg (gArr (y.mul i).at)] (by simp [go_sem]) _ (HBY.out _) ?_
  intro v5 bv5
  simp only [Act.put, List.setIfInBounds_toArray, List.set_cons_zero, List.set_cons_succ]
  replace hP := hP.after bv5
  replace hR := hR.after bv5
  replace hI := hI.after bv5
  replace hB := hB.trans (bv5.mono hS)
  replace hS := Nat.le_trans hS bv5.size
  clear bv5
  refine wpList_new rfl 40 rfl (Array.replicate 32 (Value.int .u8 0)) (by intro w; simp [go_sem]; rfl) ?_
  intro gO v6 hO lO bv6
  simp only [Act.put, List.setIfInBounds_toArray, List.set_cons_zero, List.set_cons_succ]
  have n_P_O := hP.before lO
  have n_O_P := hP.behind lO
  have n_R_O := hR.before lO
  have n_O_R := hR.behind lO
  have n_I_O := hI.before lO
  have n_O_I := hI.behind lO
  replace lO := Nat.le_trans hS lO
  replace hP := hP.after bv6
  replace hR := hR.after bv6
  replace hI := hI.after bv6
  replace hB := hB.trans (bv6.mono hS)
  replace hS := Nat.le_trans hS bv6.size
  clear bv6
  refine wpList_store_box (cells := bts a) rfl 40 (.tmp 4) (.tmp 12) rfl hO (by rfl) (by rfl) (by rw [bts_size]; rfl) (by rw [bts_size]; kernel_rfl) (bts_one _) ?_
  intro v7 hO_ stv7
  simp only [Act.put]
  replace hP := stv7.box hP n_P_O
  replace hR := stv7.box hR n_R_O
  replace hI := stv7.box hI n_I_O
  replace hB := stv7.below w.heap.size w lO hB
  replace hS := Nat.le_trans hS (Nat.le_of_eq stv7.size.symm)
  clear hO stv7
  have hO := hO_
  clear hO_
  go_upto_region 3 with fail
  go_step
  refine wpList_value rfl (.pointer (some ⟨w.heap.size, 0, none⟩)) (by simp [go_sem]) ?_
  simp only [Act.put, List.setIfInBounds_toArray, List.set_cons_zero, List.set_cons_succ]
  refine wpList_value rfl (.agg (gArr x.at)) (run_load_mid rfl (pt_x hP) (by rfl) Try.underlying27 rfl (by rw [gArr_size]; kernel_rfl)) ?_
  simp only [Act.put, List.setIfInBounds_toArray, List.set_cons_zero, List.set_cons_succ]
  refine wpList_load_box rfl 27 _ rfl hI (by rfl) Try.underlying27 rfl (by rw [gArr_size]; kernel_rfl) ?_
  simp only [Act.put, List.setIfInBounds_toArray, List.set_cons_zero, List.set_cons_succ]
  refine wpList_made_call rfl 34 #[.agg (gArr x.at), .agg (gArr i.at)] (by simp [go_sem]) _ (HMX.out _) ?_
  intro v8 bv8
  simp only [Act.put, List.setIfInBounds_toArray, List.set_cons_zero, List.set_cons_succ]
  replace hP := hP.after bv8
  replace hR := hR.after bv8
  replace hI := hI.after bv8
  replace hO := hO.after bv8
  replace hB := hB.trans (bv8.mono hS)
  replace hS := Nat.le_trans hS bv8.size
  clear bv8
  refine wpList_made_call rfl 25 #[.agg (gArr (x.mul i).at)] (by simp [go_sem]) _ (HOD.out _) ?_
  intro v9 bv9
  simp only [Act.put, List.setIfInBounds_toArray, List.set_cons_zero, List.set_cons_succ]
  replace hP := hP.after bv9
  replace hR := hR.after bv9
  replace hI := hI.after bv9
  replace hO := hO.after bv9
  replace hB := hB.trans (bv9.mono hS)
  replace hS := Nat.le_trans hS bv9.size
  clear bv9
  clear hP hI
  by_cases hb : b % 2 = 1
  · rw [show (b % 2 == 1) = true by simp [hb]]
    have HN : Hid (a + 2 ^ 255 * (b % 2) = a + 2 ^ 255 * 1) := Lib.hid (by rw [hb])
    have x31 := hO.cell 31 (bts_get a 31 (by omega))
    have f31 := hO.frozen 31
    have hc := top_low a HA.out
    have hset := bts_set a 0 1 HA.out (by omega)
    rw [Nat.mod_eq_of_lt (show a / 256 ^ 31 < 256 by omega)] at x31
    rw [Nat.mul_zero, Nat.add_zero, Nat.mul_one] at hset
    have m4 := or_top (a / 256 ^ 31) hc
    generalize a / 256 ^ 31 = c at *
    obtain ⟨c2, hc2⟩ : ∃ c2, c2 = c + 128 := ⟨_, rfl⟩
    rw [← hc2] at m4 hset
    have HSET := Lib.hid hset
    have w8 : IntKind.u8.wrap (c2 : Int) = (c2 : Int) := by rw [IntKind.wrap_u8]; omega
    clear hset hc2 hb
    go_upto_region 5 with fail
    have hO2 := hO.set 31 (.int .u8 (c2 : Nat))
    rw [HSET.out] at hO2
    have hR2 := hR.far ⟨gO, 31, none⟩ (.int .u8 (c2 : Nat)) n_R_O
    have hB2 := hB.setCell (p := ⟨gO, 31, none⟩) lO (.int .u8 (c2 : Nat))
    have hS2 := hB2.size
    clear hO hR hB hS x31 f31
    change Code.wp _ _ _ _ (Go.World.setCell _ ⟨gO, 31, none⟩ (.int .u8 (c2 : Nat)))
    generalize Go.World.setCell _ ⟨gO, 31, none⟩ (.int .u8 (c2 : Nat)) = vq at *
    have hO := hO2
    have hR := hR2
    have hB := hB2
    have hS := hS2
    clear hO2 hR2 hB2 hS2
    go_upto_region 5 with fail
    go_step
    refine wpList_load_box rfl 40 _ rfl hO (by rfl) Try.underlying40 rfl (by rw [bts_size]; kernel_rfl) ?_
    simp only [Act.put, List.setIfInBounds_toArray, List.set_cons_zero, List.set_cons_succ]
    refine wpList_store_box (cells := bts (a + 2 ^ 255 * 1)) rfl 40 (.tmp 2) (.tmp 22) rfl hR (by rfl) (by rfl) (by rw [bts_size]; rfl) (by rw [bts_size]; kernel_rfl) (bts_one _) ?_
    intro v10 hR_ stv10
    simp only [Act.put]
    replace hO := stv10.box hO n_O_R
    replace hB := stv10.below w.heap.size w lR hB
    replace hS := Nat.le_trans hS (Nat.le_of_eq stv10.size.symm)
    clear hR stv10
    have hR := hR_
    clear hR_
    obtain ⟨G, hG⟩ : ∃ G, G = bts (a + 2 ^ 255 * 1) := ⟨_, rfl⟩
    rw [← hG] at hR
    have HGS := Lib.hid (show G.size = 32 by rw [hG]; exact bts_size _)
    have HG := Lib.hid hG
    clear hG hO
    go_wp2_with fail
    exact bodyPost_ret (v := .agg G) (box_result rfl _ _ (by rfl) hR Try.underlying40 rfl (by rw [HGS.out]; kernel_rfl)) rfl ⟨by rw [HG.out, HN.out], hB⟩
  · rw [show (b % 2 == 1) = false by simp [hb]]
    have HN : Hid (a + 2 ^ 255 * (b % 2) = a) := Lib.hid (by rw [show b % 2 = 0 by omega, Nat.mul_zero, Nat.add_zero])
    clear hb
    go_upto_region 5 with fail
    go_step
    refine wpList_load_box rfl 40 _ rfl hO (by rfl) Try.underlying40 rfl (by rw [bts_size]; kernel_rfl) ?_
    simp only [Act.put, List.setIfInBounds_toArray, List.set_cons_zero, List.set_cons_succ]
    refine wpList_store_box (cells := bts a) rfl 40 (.tmp 2) (.tmp 22) rfl hR (by rfl) (by rfl) (by rw [bts_size]; rfl) (by rw [bts_size]; kernel_rfl) (bts_one _) ?_
    intro v10 hR_ stv10
    simp only [Act.put]
    replace hO := stv10.box hO n_O_R
    replace hB := stv10.below w.heap.size w lR hB
    replace hS := Nat.le_trans hS (Nat.le_of_eq stv10.size.symm)
    clear hR stv10
    have hR := hR_
    clear hR_
    obtain ⟨G, hG⟩ : ∃ G, G = bts a := ⟨_, rfl⟩
    rw [← hG] at hR
    have HGS := Lib.hid (show G.size = 32 by rw [hG]; exact bts_size _)
    have HG := Lib.hid hG
    clear hG hO
    go_wp2_with fail
    exact bodyPost_ret (v := .agg G) (box_result rfl _ _ (by rfl) hR Try.underlying40 rfl (by rw [HGS.out]; kernel_rfl)) rfl ⟨by rw [HG.out, HN.out], hB⟩
set_option maxRecDepth 100000 in
set_option maxHeartbeats 2000000 in
theorem refPtBytes_any (u v n : Nat) (hu : u < P25) (hv : v < P25) (hn : n < P25) (w : World) : Calls Try.prog 78 #[.agg (qArr u v n)] w (RetSl (leBytes (pN u v n) 32) w) := by
  have HI := Lib.hid (rInv n hn)
  have HMY := Lib.hid (rMul v (fi n) hv (fi_lt _))
  have HMX := Lib.hid (rMul u (fi n) hu (fi_lt _))
  have HA := Lib.hid (P25_255 (fm_lt v (fi n)))
  have HBY := Lib.hid (fun w : World => refBytes_own (fm v (fi n)) w)
  have hb2 : ((dig (fm u (fi n)) 0 : Nat) : Int).tmod 2 = ((fm u (fi n) % 2 : Nat) : Int) := by
    rw [Int.tmod_eq_emod_of_nonneg (by omega)]
    unfold dig
    omega
  have HB2 := Lib.hid hb2
  unfold pN
  clear hu hv hn hb2
  generalize fi n = i at *
  generalize fm v i = a at *
  generalize fm u i = b at *
  go_enter Try.func78, Try.ntmps78
  go_upto_region 1 with fail
  have hP : Box (w.alloc (.cells (qArr u v n) 66)) w.heap.size 66 (qArr u v n) := (Box.new w 66 (qArr u v n))
  have lP : w.heap.size ≤ w.heap.size := by omega
  have hB : Below w.heap.size w (w.alloc (.cells (qArr u v n) 66)) := ((Below.refl w.heap.size w).alloc (by simp; try omega) (.cells (qArr u v n) 66))
  have hS := hB.size
  change Code.wp _ _ _ _ (w.alloc (.cells (qArr u v n) 66))
  generalize (w.alloc (.cells (qArr u v n) 66)) = v0 at *
  go_step
  refine wpList_value rfl (.pointer (some ⟨w.heap.size, 32, none⟩)) (by simp [go_sem]) ?_
  simp only [Act.put, List.setIfInBounds_toArray, List.set_cons_zero, List.set_cons_succ]
  refine wpList_value rfl (.agg (fArr (dig n))) (run_load_mid rfl (q_z hP) (by rfl) Try.underlying34 rfl (by rw [fArr_size]; kernel_rfl)) ?_
  simp only [Act.put, List.setIfInBounds_toArray, List.set_cons_zero, List.set_cons_succ]
  refine wpList_made_call rfl 43 #[.agg (fArr (dig n))] (by simp [go_sem]) _ (HI.out _) ?_
  intro v1 bv1
  simp only [Act.put, List.setIfInBounds_toArray, List.set_cons_zero, List.set_cons_succ]
  replace hP := hP.after bv1
  replace hB := hB.trans (bv1.mono hS)
  replace hS := Nat.le_trans hS bv1.size
  clear bv1
  refine wpList_new rfl 34 rfl (Array.replicate 16 (Value.int .u64 0)) (by intro w; simp [go_sem]; rfl) ?_
  intro gI v2 hI lI bv2
  simp only [Act.put, List.setIfInBounds_toArray, List.set_cons_zero, List.set_cons_succ]
  have n_P_I := hP.before lI
  have n_I_P := hP.behind lI
  replace lI := Nat.le_trans hS lI
  replace hP := hP.after bv2
  replace hB := hB.trans (bv2.mono hS)
  replace hS := Nat.le_trans hS bv2.size
  clear bv2
  refine wpList_store_box (cells := fArr (dig i)) rfl 34 (.tmp 3) (.tmp 7) rfl hI (by rfl) (by rfl) (by rw [fArr_size]; rfl) (by rw [fArr_size]; kernel_rfl) (fArr_one _) ?_
  intro v3 hI_ stv3
  simp only [Act.put]
  replace hP := stv3.box hP n_P_I
  replace hB := stv3.below w.heap.size w lI hB
  replace hS := Nat.le_trans hS (Nat.le_of_eq stv3.size.symm)
  clear hI stv3
  have hI := hI_
  clear hI_
  go_upto_region 2 with fail
  go_step
  refine wpList_value rfl (.pointer (some ⟨w.heap.size, 16, none⟩)) (by simp [go_sem]) ?_
  simp only [Act.put, List.setIfInBounds_toArray, List.set_cons_zero, List.set_cons_succ]
  refine wpList_value rfl (.agg (fArr (dig v))) (run_load_mid rfl (q_y hP) (by rfl) Try.underlying34 rfl (by rw [fArr_size]; kernel_rfl)) ?_
  simp only [Act.put, List.setIfInBounds_toArray, List.set_cons_zero, List.set_cons_succ]
  refine wpList_load_box rfl 34 _ rfl hI (by rfl) Try.underlying34 rfl (by rw [fArr_size]; kernel_rfl) ?_
  simp only [Act.put, List.setIfInBounds_toArray, List.set_cons_zero, List.set_cons_succ]
  refine wpList_made_call rfl 39 #[.agg (fArr (dig v)), .agg (fArr (dig i))] (by simp [go_sem]) _ (HMY.out _) ?_
  intro v4 bv4
  simp only [Act.put, List.setIfInBounds_toArray, List.set_cons_zero, List.set_cons_succ]
  replace hP := hP.after bv4
  replace hI := hI.after bv4
  replace hB := hB.trans (bv4.mono hS)
  replace hS := Nat.le_trans hS bv4.size
  clear bv4
  have hSb := hS
  refine wpList_enterR rfl 61 #[.agg (fArr (dig a))] (by simp [go_sem]) _ (HBY.out _) ?_
  rintro e v5 ⟨s, rfl, hown, bv5⟩
  refine ⟨_, rfl, ?_⟩
  simp only [Act.put, List.setIfInBounds_toArray, List.set_cons_zero, List.set_cons_succ]
  replace hP := hP.after bv5
  replace hI := hI.after bv5
  replace hB := hB.trans (bv5.mono hS)
  replace hS := Nat.le_trans hS bv5.size
  clear bv5
  rw [leBytes_len] at hown
  obtain ⟨gO, cap, cur, rfl, lO, hO, hcap, hmax, hcur⟩ := own_open hown
  clear hown
  replace lO : w.heap.size ≤ gO := by omega
  refine wpList_value rfl (.slice (some ⟨gO, 0, none⟩) 32 cap) (by simp [go_sem]) ?_
  simp only [Act.put, List.setIfInBounds_toArray, List.set_cons_zero, List.set_cons_succ]
  have HCUR := Lib.hid hcur
  clear hcur hSb
  go_upto_region 3 with fail
  go_step
  refine wpList_value rfl (.pointer (some ⟨w.heap.size, 0, none⟩)) (by simp [go_sem]) ?_
  simp only [Act.put, List.setIfInBounds_toArray, List.set_cons_zero, List.set_cons_succ]
  refine wpList_value rfl (.agg (fArr (dig u))) (run_load_mid rfl (q_x hP) (by rfl) Try.underlying34 rfl (by rw [fArr_size]; kernel_rfl)) ?_
  simp only [Act.put, List.setIfInBounds_toArray, List.set_cons_zero, List.set_cons_succ]
  refine wpList_load_box rfl 34 _ rfl hI (by rfl) Try.underlying34 rfl (by rw [fArr_size]; kernel_rfl) ?_
  simp only [Act.put, List.setIfInBounds_toArray, List.set_cons_zero, List.set_cons_succ]
  refine wpList_made_call rfl 39 #[.agg (fArr (dig u)), .agg (fArr (dig i))] (by simp [go_sem]) _ (HMX.out _) ?_
  intro v6 bv6
  simp only [Act.put, List.setIfInBounds_toArray, List.set_cons_zero, List.set_cons_succ]
  replace hP := hP.after bv6
  replace hI := hI.after bv6
  replace hO := hO.after bv6
  replace hB := hB.trans (bv6.mono hS)
  replace hS := Nat.le_trans hS bv6.size
  clear bv6
  clear hP hI
  refine wpList_value rfl (.int .u64 (dig b 0 : Nat)) (by simp [go_sem, index_f]) ?_
  simp only [Act.put, List.setIfInBounds_toArray, List.set_cons_zero, List.set_cons_succ]
  refine wpList_value rfl (.int .u64 (b % 2 : Nat)) (by simp [go_sem, HB2.out]) ?_
  simp only [Act.put, List.setIfInBounds_toArray, List.set_cons_zero, List.set_cons_succ]
  by_cases hb : b % 2 = 1
  · have ob : (((b % 2 : Nat) : Int) == 1) = true := by simp [hb]
    have HN : Hid (a + 2 ^ 255 * (b % 2) = a + 2 ^ 255 * 1) := Lib.hid (by rw [hb])
    have c31 := HCUR.out 31 (by omega)
    have x31 := hO.cell 31 c31
    have f31 := hO.frozen 31
    have hc := top_low a HA.out
    have hset := cells_top (q := 0) (p := 1) HA.out (by omega) (by rw [Nat.mul_zero, Nat.add_zero]; exact HCUR.out)
    rw [Nat.mod_eq_of_lt (show a / 256 ^ 31 < 256 by omega)] at x31
    clear c31
    rw [Nat.mul_one] at hset
    generalize a / 256 ^ 31 = c at *
    obtain ⟨c2, hc2⟩ : ∃ c2, c2 = c + 128 := ⟨_, rfl⟩
    rw [← hc2] at hset
    have HSET := Lib.hid hset
    have w8 : IntKind.u8.wrap ((c : Int) + 128) = (c2 : Int) := by rw [IntKind.wrap_u8]; omega
    clear hset hc2 hb
    generalize (b % 2 : Nat) = bb at *
    go_upto_region 5 with fail
    have hO2 := hO.set 31 (.int .u8 (c2 : Nat))
    have hB2 := hB.setCell (p := ⟨gO, 31, none⟩) lO (.int .u8 (c2 : Nat))
    clear hO hB hS x31 f31
    change Code.wp _ _ _ _ (Go.World.setCell _ ⟨gO, 31, none⟩ (.int .u8 (c2 : Nat)))
    generalize Go.World.setCell _ ⟨gO, 31, none⟩ (.int .u8 (c2 : Nat)) = vq at *
    have hO := hO2
    have hB := hB2
    clear hO2 hB2
    have HCUR := HSET
    go_wp2_with fail
    go_ret
    exact ⟨_, _, by rw [leBytes_len]; rfl, by rw [leBytes_len, HN.out]; exact sl_cells hO hcap hmax HCUR.out, hB⟩
  · have ob : (((b % 2 : Nat) : Int) == 1) = false := by simp; omega
    have HN : Hid (a + 2 ^ 255 * (b % 2) = a) := Lib.hid (by rw [show b % 2 = 0 by omega, Nat.mul_zero, Nat.add_zero])
    clear hb
    generalize (b % 2 : Nat) = bb at *
    go_wp2_with fail
    go_ret
    exact ⟨_, _, by rw [leBytes_len]; rfl, by rw [leBytes_len, HN.out]; exact sl_cells hO hcap hmax HCUR.out, hB⟩
end Go.Proofs.Ytddgkoheihlbdaa

/- Points: zero, the base, and points of bytes, as the program's and the document's. -/
import Derived.Test.YtpkoniebbkkmjaaPtAdd5
namespace Go.Proofs.Ytpkoniebbkkmjaa
open Go.RowKit
set_option linter.unusedVariables false
attribute [local irreducible] fi dN xx rtN rtOk pw fa fs fm yB

theorem rep_one_ok {x r : Nat} (hx : x < P25) (hr : r < P25) (h : On (x : Int) (r : Int)) : (PP.mk x r).ok := ⟨hx, hr, h⟩
theorem rep_one_of {x r : Nat} (h : (PP.mk x r).ok) (hx : x < P25) (hr : r < P25) : Rep x r 1 (fm x r) ⟨x, r⟩ :=
  ⟨⟨h, hx, hr, one_P, fun k => Zp.one (k.to (by simp)), Zp.zero.to (by simp), Zp.zero.to (by simp)⟩, fm_lt' _ _, (zfm x r).to (by simp)⟩
theorem rep_one {x r : Nat} (hx : x < P25) (hr : r < P25) (h : x * x % P25 = xx r) : Rep x r 1 (fm x r) ⟨x, r⟩ := by
  have h0 : On (x : Int) (r : Int) := on_got h
  have h1 := rep_one_ok hx hr h0
  exact rep_one_of h1 hx hr
theorem got_sq (b : Bool) (n u : Nat) (hs : n * n % P25 = u) (hl : n < P25) (hu : u < P25) : (bif b then fs 0 n else n) * (bif b then fs 0 n else n) % P25 = u := by
  cases b with
  | false => exact hs
  | true =>
    simp only [cond_true]
    have h1 := zfs 0 n (Nat.le_of_lt hl)
    have h2 := zmod (n * n)
    have h3 := zmod (fs 0 n * fs 0 n)
    rw [hs] at h2
    rw [Int.natCast_mul] at h2 h3
    refine Zp.inj (Nat.mod_lt _ p25_pos) hu ?_
    generalize ((fs 0 n * fs 0 n % P25 : Nat) : Int) = A at *
    generalize (fs 0 n : Int) = B at *
    exact ((h3.sub h2).add (h1.mul (B - n))).to (by grind)
theorem got_rep (r q : Nat) (h : getOk r q = true) : Rep (getX r q) r 1 (fm (getX r q) r) ⟨getX r q, r⟩ := by
  have hr : r < P25 := by
    rcases Nat.lt_or_ge r P25 with h1 | h1
    · exact h1
    · rw [getOk_a (by omega)] at h; cases h
  have hok : rtOk (xx r) = true := by
    cases hk : rtOk (xx r) with
    | true => rfl
    | false => rw [getOk_b hk] at h; cases h
  have hs := (inverts_math (xx r) (xx_lt r)).2.2 hok
  refine rep_one (getX_lt r q) hr ?_
  have hl := rtN_lt (xx r)
  have hu := xx_lt r
  unfold getX
  generalize rtN (xx r) = n at *
  generalize xx r = u at *
  exact got_sq (q == 1) n u hs hl hu
def pbase : PP := ⟨rtN (xx yB), yB⟩
theorem base_rep : Rep (rtN (xx yB)) yB 1 (fm (rtN (xx yB)) yB) pbase := rep_one (rtN_lt _) yB_lt ((inverts_math (xx yB) (xx_lt yB)).2.2 okB)
theorem pbase_ok : pbase.ok := base_rep.ok
theorem base_is (w : World) : Calls Try.prog 21 #[] w (RetIs pbase w) := by
  refine (base_any w).mono ?_
  rintro e w' ⟨x, y, z, t, rfl, ⟨hx, hy, hz, ht⟩, hb⟩
  exact ⟨x, y, z, t, rfl, ⟨_, _, _, _, hx, hy, hz, ht, base_rep⟩, hb⟩
theorem eql_bts (n m : Nat) (hn : n < 2 ^ 256) (hm : m < 2 ^ 256) (w : World) : (Op.equalIn 10000 39 (.agg (bts n)) (.agg (bts m))).run Try.prog w = .ok (n == m) w := by
  rw [equal_arr w 39 5 32 9999 (fun j => n / 256 ^ j % 256) (fun j => m / 256 ^ j % 256) _ _ (by kernel_rfl) (fun a b => run_equalIn_int w 9998 _ _ .u8 a b (by kernel_rfl)) (by simp [go_sem]) (by simp [go_sem]) (fun i hi => bts_get n i hi) (fun i hi => bts_get m i hi)]
  congr 1
  rw [Bool.eq_iff_iff]
  simp only [decide_eq_true_eq, beq_iff_eq]
  constructor
  · intro h
    have := bytes_inj n m 32 h
    rwa [Nat.mod_eq_of_lt (by simp only [Nat.reducePow] at *; omega), Nat.mod_eq_of_lt (by simp only [Nat.reducePow] at *; omega)] at this
  · rintro rfl _ _; rfl
def RetTwo (ok : Bool) (a : PP) (w : World) (e : Ending) (w' : World) : Prop := ∃ (x y z t : L5) (u v n : Nat), e = .returned (.tuple #[.agg (pArr x y z t), .agg (qArr u v n), .bool ok]) ∧ (ok = true → PtIs a x y z t ∧ Rep3 u v n a) ∧ Below w.heap.size w w'
set_option linter.unusedSimpArgs false in
set_option maxRecDepth 100000 in
set_option maxHeartbeats 20000000 in
theorem zero_is (w : World) : Calls Try.prog 20 #[] w (RetIs pzero w) := by
  have HO1 := Lib.hid el_one
  have HOF := Lib.hid (fun w : World => of_g 1 (by decide) w)
  generalize ofL 1 = o1 at *
  go_enter Try.func20, Try.ntmps20
  go_upto_region 1 with fail
  have hR : Box (w.alloc (.cells #[.int .u64 0, .int .u64 0, .int .u64 0, .int .u64 0, .int .u64 0, .int .u64 0, .int .u64 0, .int .u64 0, .int .u64 0, .int .u64 0, .int .u64 0, .int .u64 0, .int .u64 0, .int .u64 0, .int .u64 0, .int .u64 0, .int .u64 0, .int .u64 0, .int .u64 0, .int .u64 0] 29)) w.heap.size 29 #[.int .u64 0, .int .u64 0, .int .u64 0, .int .u64 0, .int .u64 0, .int .u64 0, .int .u64 0, .int .u64 0, .int .u64 0, .int .u64 0, .int .u64 0, .int .u64 0, .int .u64 0, .int .u64 0, .int .u64 0, .int .u64 0, .int .u64 0, .int .u64 0, .int .u64 0, .int .u64 0] := (Box.new w 29 #[.int .u64 0, .int .u64 0, .int .u64 0, .int .u64 0, .int .u64 0, .int .u64 0, .int .u64 0, .int .u64 0, .int .u64 0, .int .u64 0, .int .u64 0, .int .u64 0, .int .u64 0, .int .u64 0, .int .u64 0, .int .u64 0, .int .u64 0, .int .u64 0, .int .u64 0, .int .u64 0])
  have lR : w.heap.size ≤ w.heap.size := by omega
  have hB : Below w.heap.size w (w.alloc (.cells #[.int .u64 0, .int .u64 0, .int .u64 0, .int .u64 0, .int .u64 0, .int .u64 0, .int .u64 0, .int .u64 0, .int .u64 0, .int .u64 0, .int .u64 0, .int .u64 0, .int .u64 0, .int .u64 0, .int .u64 0, .int .u64 0, .int .u64 0, .int .u64 0, .int .u64 0, .int .u64 0] 29)) := ((Below.refl w.heap.size w).alloc (by simp; try omega) (.cells #[.int .u64 0, .int .u64 0, .int .u64 0, .int .u64 0, .int .u64 0, .int .u64 0, .int .u64 0, .int .u64 0, .int .u64 0, .int .u64 0, .int .u64 0, .int .u64 0, .int .u64 0, .int .u64 0, .int .u64 0, .int .u64 0, .int .u64 0, .int .u64 0, .int .u64 0, .int .u64 0] 29))
  have hS := hB.size
  change Code.wp _ _ _ _ (w.alloc (.cells #[.int .u64 0, .int .u64 0, .int .u64 0, .int .u64 0, .int .u64 0, .int .u64 0, .int .u64 0, .int .u64 0, .int .u64 0, .int .u64 0, .int .u64 0, .int .u64 0, .int .u64 0, .int .u64 0, .int .u64 0, .int .u64 0, .int .u64 0, .int .u64 0, .int .u64 0, .int .u64 0] 29))
  generalize (w.alloc (.cells #[.int .u64 0, .int .u64 0, .int .u64 0, .int .u64 0, .int .u64 0, .int .u64 0, .int .u64 0, .int .u64 0, .int .u64 0, .int .u64 0, .int .u64 0, .int .u64 0, .int .u64 0, .int .u64 0, .int .u64 0, .int .u64 0, .int .u64 0, .int .u64 0, .int .u64 0, .int .u64 0] 29)) = v0 at *
  go_step
  refine wpList_made_call rfl 29 #[.int .u64 1] (by simp [go_sem]) _ (HOF.out _) ?_
  intro v1 bv1
  simp only [Act.put, List.setIfInBounds_toArray, List.set_cons_zero, List.set_cons_succ]
  replace hR := hR.after bv1
  replace hB := hB.trans (bv1.mono hS)
  replace hS := Nat.le_trans hS bv1.size
  clear bv1
  refine wpList_made_call rfl 29 #[.int .u64 1] (by simp [go_sem]) _ (HOF.out _) ?_
  intro v2 bv2
  simp only [Act.put, List.setIfInBounds_toArray, List.set_cons_zero, List.set_cons_succ]
  replace hR := hR.after bv2
  replace hB := hB.trans (bv2.mono hS)
  replace hS := Nat.le_trans hS bv2.size
  clear bv2
  refine wpList_value rfl (.agg (pArr L5.zero o1 o1 L5.zero)) (run_build rfl _ (by simp [go_sem]) _ (build_pt2 o1 o1 _)) ?_
  simp only [Act.put, List.setIfInBounds_toArray, List.set_cons_zero, List.set_cons_succ]
  refine wpList_store_box (cells := pArr L5.zero o1 o1 L5.zero) rfl 29 (.tmp 0) (.tmp 3) rfl hR (by rfl) (by rfl) (by rw [pArr_size L5.zero o1 o1 L5.zero]; rfl) (by rw [pArr_size L5.zero o1 o1 L5.zero]; kernel_rfl) (pArr_one _ _ _ _) ?_
  intro v3 hR_ stv3
  simp only [Act.put]
  replace hB := stv3.below w.heap.size w lR hB
  replace hS := Nat.le_trans hS (Nat.le_of_eq stv3.size.symm)
  clear hR stv3
  have hR := hR_
  clear hR_
  obtain ⟨GG, hG⟩ : ∃ GG, GG = pArr L5.zero o1 o1 L5.zero := ⟨_, rfl⟩
  rw [← hG] at hR
  have HGS := Lib.hid (show GG.size = 20 by rw [hG]; exact pArr_size L5.zero o1 o1 L5.zero)
  have HGE := Lib.hid hG
  clear hG
  go_wp2_with fail
  exact bodyPost_ret (v := .agg GG) (box_result rfl _ _ (by rfl) hR Try.underlying29 rfl (by rw [HGS.out]; kernel_rfl)) rfl ⟨L5.zero, o1, o1, L5.zero, by rw [HGE.out], ⟨0, 1, 1, 0, el_zero, HO1.out, HO1.out, el_zero, rep_zero⟩, hB⟩
set_option linter.unusedSimpArgs false in
set_option maxRecDepth 100000 in
set_option maxHeartbeats 20000000 in
theorem two_is (r q : Nat) (hr : r < 2 ^ 255) (hq : q < 2) (w : World) : Calls Try.prog 14 #[.agg (bts (r + 2 ^ 255 * q))] w (RetTwo (getOk r q) ⟨getX r q, r⟩ w) := by
  have HGP := Lib.hid (fun a cap (w : World) (h : Sl w a 32 cap (leBytes (r + 2 ^ 255 * q) 32)) => get_pt r q hr hq a cap w h)
  have HGR := Lib.hid (fun a cap (w : World) (h : Sl w a 32 cap (leBytes (r + 2 ^ 255 * q) 32)) => refGet_pt r q hr hq a cap w h)
  unfold RetGet at HGP
  unfold RetGetR at HGR
  have HREP := Lib.hid (got_rep r q)
  obtain ⟨ok, hok⟩ : ∃ ok, ok = getOk r q := ⟨_, rfl⟩
  rw [← hok] at HGP HGR HREP ⊢
  obtain ⟨er, her⟩ : ∃ er : Int, er = bif ok then 0 else 8 := ⟨_, rfl⟩
  rw [← her] at HGP
  have HER := Lib.hid her
  clear hr hq hok her
  obtain ⟨n, hn⟩ : ∃ n, n = r + 2 ^ 255 * q := ⟨_, rfl⟩
  rw [← hn] at HGP HGR ⊢
  clear hn
  generalize getX r q = X at *
  go_enter Try.func14, Try.ntmps14
  go_upto_region 1 with fail
  have hY : Box (((w.alloc (.cells (bts n) 39)).alloc (.cells #[.int .u64 0, .int .u64 0, .int .u64 0, .int .u64 0, .int .u64 0, .int .u64 0, .int .u64 0, .int .u64 0, .int .u64 0, .int .u64 0, .int .u64 0, .int .u64 0, .int .u64 0, .int .u64 0, .int .u64 0, .int .u64 0, .int .u64 0, .int .u64 0, .int .u64 0, .int .u64 0] 29)).alloc (.cells (Array.replicate 48 (Value.int .u64 0)) 36)) w.heap.size 39 (bts n) := (((Box.new w 39 (bts n)).alloc (.cells #[.int .u64 0, .int .u64 0, .int .u64 0, .int .u64 0, .int .u64 0, .int .u64 0, .int .u64 0, .int .u64 0, .int .u64 0, .int .u64 0, .int .u64 0, .int .u64 0, .int .u64 0, .int .u64 0, .int .u64 0, .int .u64 0, .int .u64 0, .int .u64 0, .int .u64 0, .int .u64 0] 29)).alloc (.cells (Array.replicate 48 (Value.int .u64 0)) 36))
  have lY : w.heap.size ≤ w.heap.size := by omega
  have hRP : Box (((w.alloc (.cells (bts n) 39)).alloc (.cells #[.int .u64 0, .int .u64 0, .int .u64 0, .int .u64 0, .int .u64 0, .int .u64 0, .int .u64 0, .int .u64 0, .int .u64 0, .int .u64 0, .int .u64 0, .int .u64 0, .int .u64 0, .int .u64 0, .int .u64 0, .int .u64 0, .int .u64 0, .int .u64 0, .int .u64 0, .int .u64 0] 29)).alloc (.cells (Array.replicate 48 (Value.int .u64 0)) 36)) (w.heap.size + 1) 29 #[.int .u64 0, .int .u64 0, .int .u64 0, .int .u64 0, .int .u64 0, .int .u64 0, .int .u64 0, .int .u64 0, .int .u64 0, .int .u64 0, .int .u64 0, .int .u64 0, .int .u64 0, .int .u64 0, .int .u64 0, .int .u64 0, .int .u64 0, .int .u64 0, .int .u64 0, .int .u64 0] := by
    have := ((Box.new (w.alloc (.cells (bts n) 39)) 29 #[.int .u64 0, .int .u64 0, .int .u64 0, .int .u64 0, .int .u64 0, .int .u64 0, .int .u64 0, .int .u64 0, .int .u64 0, .int .u64 0, .int .u64 0, .int .u64 0, .int .u64 0, .int .u64 0, .int .u64 0, .int .u64 0, .int .u64 0, .int .u64 0, .int .u64 0, .int .u64 0]).alloc (.cells (Array.replicate 48 (Value.int .u64 0)) 36))
    simp only [World.size_alloc] at this
    exact this
  have lRP : w.heap.size ≤ (w.heap.size + 1) := by omega
  have n_Y_RP : w.heap.size ≠ (w.heap.size + 1) := by omega
  have n_RP_Y : (w.heap.size + 1) ≠ w.heap.size := by omega
  have hRQ : Box (((w.alloc (.cells (bts n) 39)).alloc (.cells #[.int .u64 0, .int .u64 0, .int .u64 0, .int .u64 0, .int .u64 0, .int .u64 0, .int .u64 0, .int .u64 0, .int .u64 0, .int .u64 0, .int .u64 0, .int .u64 0, .int .u64 0, .int .u64 0, .int .u64 0, .int .u64 0, .int .u64 0, .int .u64 0, .int .u64 0, .int .u64 0] 29)).alloc (.cells (Array.replicate 48 (Value.int .u64 0)) 36)) (w.heap.size + 2) 36 (Array.replicate 48 (Value.int .u64 0)) := by
    have := (Box.new ((w.alloc (.cells (bts n) 39)).alloc (.cells #[.int .u64 0, .int .u64 0, .int .u64 0, .int .u64 0, .int .u64 0, .int .u64 0, .int .u64 0, .int .u64 0, .int .u64 0, .int .u64 0, .int .u64 0, .int .u64 0, .int .u64 0, .int .u64 0, .int .u64 0, .int .u64 0, .int .u64 0, .int .u64 0, .int .u64 0, .int .u64 0] 29)) 36 (Array.replicate 48 (Value.int .u64 0)))
    simp only [World.size_alloc, Nat.add_assoc, Nat.reduceAdd] at this
    exact this
  have lRQ : w.heap.size ≤ (w.heap.size + 2) := by omega
  have n_Y_RQ : w.heap.size ≠ (w.heap.size + 2) := by omega
  have n_RQ_Y : (w.heap.size + 2) ≠ w.heap.size := by omega
  have n_RP_RQ : (w.heap.size + 1) ≠ (w.heap.size + 2) := by omega
  have n_RQ_RP : (w.heap.size + 2) ≠ (w.heap.size + 1) := by omega
  have hB : Below w.heap.size w (((w.alloc (.cells (bts n) 39)).alloc (.cells #[.int .u64 0, .int .u64 0, .int .u64 0, .int .u64 0, .int .u64 0, .int .u64 0, .int .u64 0, .int .u64 0, .int .u64 0, .int .u64 0, .int .u64 0, .int .u64 0, .int .u64 0, .int .u64 0, .int .u64 0, .int .u64 0, .int .u64 0, .int .u64 0, .int .u64 0, .int .u64 0] 29)).alloc (.cells (Array.replicate 48 (Value.int .u64 0)) 36)) := ((((Below.refl w.heap.size w).alloc (by simp; try omega) (.cells (bts n) 39)).alloc (by simp; try omega) (.cells #[.int .u64 0, .int .u64 0, .int .u64 0, .int .u64 0, .int .u64 0, .int .u64 0, .int .u64 0, .int .u64 0, .int .u64 0, .int .u64 0, .int .u64 0, .int .u64 0, .int .u64 0, .int .u64 0, .int .u64 0, .int .u64 0, .int .u64 0, .int .u64 0, .int .u64 0, .int .u64 0] 29)).alloc (by simp; try omega) (.cells (Array.replicate 48 (Value.int .u64 0)) 36))
  have hS := hB.size
  change Code.wp _ _ _ _ (((w.alloc (.cells (bts n) 39)).alloc (.cells #[.int .u64 0, .int .u64 0, .int .u64 0, .int .u64 0, .int .u64 0, .int .u64 0, .int .u64 0, .int .u64 0, .int .u64 0, .int .u64 0, .int .u64 0, .int .u64 0, .int .u64 0, .int .u64 0, .int .u64 0, .int .u64 0, .int .u64 0, .int .u64 0, .int .u64 0, .int .u64 0] 29)).alloc (.cells (Array.replicate 48 (Value.int .u64 0)) 36))
  generalize (((w.alloc (.cells (bts n) 39)).alloc (.cells #[.int .u64 0, .int .u64 0, .int .u64 0, .int .u64 0, .int .u64 0, .int .u64 0, .int .u64 0, .int .u64 0, .int .u64 0, .int .u64 0, .int .u64 0, .int .u64 0, .int .u64 0, .int .u64 0, .int .u64 0, .int .u64 0, .int .u64 0, .int .u64 0, .int .u64 0, .int .u64 0] 29)).alloc (.cells (Array.replicate 48 (Value.int .u64 0)) 36)) = v0 at *
  go_step
  refine wpList_value rfl (.slice (some ⟨w.heap.size, 0, none⟩) 32 32) (by simp [go_sem]) ?_
  simp only [Act.put, List.setIfInBounds_toArray, List.set_cons_zero, List.set_cons_succ]
  refine wpList_enterR rfl 10 #[.slice (some ⟨w.heap.size, 0, none⟩) 32 32] (by simp [go_sem]) _ (HGP.out _ _ _ (bts_sl hY)) ?_
  rintro e v1 ⟨x, y, z, t, rfl, hel, bv1⟩
  refine ⟨_, rfl, ?_⟩
  simp only [Act.put, List.setIfInBounds_toArray, List.set_cons_zero, List.set_cons_succ]
  replace hY := hY.after bv1
  replace hRP := hRP.after bv1
  replace hRQ := hRQ.after bv1
  replace hB := hB.trans (bv1.mono hS)
  replace hS := Nat.le_trans hS bv1.size
  clear bv1
  have HEL := Lib.hid hel
  clear hel
  refine wpList_value rfl (.tuple #[.agg (pArr x y z t), .int .i64 er]) (by simp [go_sem]) ?_
  simp only [Act.put, List.setIfInBounds_toArray, List.set_cons_zero, List.set_cons_succ]
  refine wpList_value rfl (.agg (pArr x y z t)) (by simp [go_sem]) ?_
  simp only [Act.put, List.setIfInBounds_toArray, List.set_cons_zero, List.set_cons_succ]
  refine wpList_value rfl (.int .i64 er) (by simp [go_sem]) ?_
  simp only [Act.put, List.setIfInBounds_toArray, List.set_cons_zero, List.set_cons_succ]
  refine wpList_new rfl 29 rfl #[.int .u64 0, .int .u64 0, .int .u64 0, .int .u64 0, .int .u64 0, .int .u64 0, .int .u64 0, .int .u64 0, .int .u64 0, .int .u64 0, .int .u64 0, .int .u64 0, .int .u64 0, .int .u64 0, .int .u64 0, .int .u64 0, .int .u64 0, .int .u64 0, .int .u64 0, .int .u64 0] (by intro w; simp [go_sem]) ?_
  intro gP v2 hP lP bv2
  simp only [Act.put, List.setIfInBounds_toArray, List.set_cons_zero, List.set_cons_succ]
  have n_Y_P := hY.before lP
  have n_P_Y := hY.behind lP
  have n_RP_P := hRP.before lP
  have n_P_RP := hRP.behind lP
  have n_RQ_P := hRQ.before lP
  have n_P_RQ := hRQ.behind lP
  replace lP := Nat.le_trans hS lP
  replace hY := hY.after bv2
  replace hRP := hRP.after bv2
  replace hRQ := hRQ.after bv2
  replace hB := hB.trans (bv2.mono hS)
  replace hS := Nat.le_trans hS bv2.size
  clear bv2
  refine wpList_store_box (cells := pArr x y z t) rfl 29 (.tmp 5) (.tmp 12) rfl hP (by rfl) (by rfl) (by rw [pArr_size x y z t]; rfl) (by rw [pArr_size x y z t]; kernel_rfl) (pArr_one _ _ _ _) ?_
  intro v3 hP_ stv3
  simp only [Act.put]
  replace hY := stv3.box hY n_Y_P
  replace hRP := stv3.box hRP n_RP_P
  replace hRQ := stv3.box hRQ n_RQ_P
  replace hB := stv3.below w.heap.size w lP hB
  replace hS := Nat.le_trans hS (Nat.le_of_eq stv3.size.symm)
  clear hP stv3
  have hP := hP_
  clear hP_
  refine wpList_value rfl (.int .i64 er) (by simp [go_sem]) ?_
  simp only [Act.put, List.setIfInBounds_toArray, List.set_cons_zero, List.set_cons_succ]
  go_upto_region 2 with fail
  go_step
  refine wpList_value rfl (.slice (some ⟨w.heap.size, 0, none⟩) 32 32) (by simp [go_sem]) ?_
  simp only [Act.put, List.setIfInBounds_toArray, List.set_cons_zero, List.set_cons_succ]
  refine wpList_enterR rfl 11 #[.slice (some ⟨w.heap.size, 0, none⟩) 32 32] (by simp [go_sem]) _ (HGR.out _ _ _ (bts_sl hY)) ?_
  rintro e v4 ⟨u, v, m, rfl, hqq, hu, hv, hm, bv4⟩
  refine ⟨_, rfl, ?_⟩
  simp only [Act.put, List.setIfInBounds_toArray, List.set_cons_zero, List.set_cons_succ]
  replace hY := hY.after bv4
  replace hRP := hRP.after bv4
  replace hRQ := hRQ.after bv4
  replace hP := hP.after bv4
  replace hB := hB.trans (bv4.mono hS)
  replace hS := Nat.le_trans hS bv4.size
  clear bv4
  have HQ := Lib.hid hqq
  clear hqq hu hv hm
  refine wpList_value rfl (.tuple #[.agg (qArr u v m), .bool ok]) (by simp [go_sem]) ?_
  simp only [Act.put, List.setIfInBounds_toArray, List.set_cons_zero, List.set_cons_succ]
  refine wpList_value rfl (.agg (qArr u v m)) (by simp [go_sem]) ?_
  simp only [Act.put, List.setIfInBounds_toArray, List.set_cons_zero, List.set_cons_succ]
  refine wpList_value rfl (.bool ok) (by simp [go_sem]) ?_
  simp only [Act.put, List.setIfInBounds_toArray, List.set_cons_zero, List.set_cons_succ]
  refine wpList_new rfl 36 rfl (Array.replicate 48 (Value.int .u64 0)) (by intro w; simp [go_sem]; rfl) ?_
  intro gQ v5 hQ lQ bv5
  simp only [Act.put, List.setIfInBounds_toArray, List.set_cons_zero, List.set_cons_succ]
  have n_Y_Q := hY.before lQ
  have n_Q_Y := hY.behind lQ
  have n_RP_Q := hRP.before lQ
  have n_Q_RP := hRP.behind lQ
  have n_RQ_Q := hRQ.before lQ
  have n_Q_RQ := hRQ.behind lQ
  have n_P_Q := hP.before lQ
  have n_Q_P := hP.behind lQ
  replace lQ := Nat.le_trans hS lQ
  replace hY := hY.after bv5
  replace hRP := hRP.after bv5
  replace hRQ := hRQ.after bv5
  replace hP := hP.after bv5
  replace hB := hB.trans (bv5.mono hS)
  replace hS := Nat.le_trans hS bv5.size
  clear bv5
  refine wpList_store_box (cells := qArr u v m) rfl 36 (.tmp 7) (.tmp 17) rfl hQ (by rfl) (by rfl) (by rw [qArr_size u v m]; rfl) (by rw [qArr_size u v m]; kernel_rfl) (qArr_one _ _ _) ?_
  intro v6 hQ_ stv6
  simp only [Act.put]
  replace hY := stv6.box hY n_Y_Q
  replace hRP := stv6.box hRP n_RP_Q
  replace hRQ := stv6.box hRQ n_RQ_Q
  replace hP := stv6.box hP n_P_Q
  replace hB := stv6.below w.heap.size w lQ hB
  replace hS := Nat.le_trans hS (Nat.le_of_eq stv6.size.symm)
  clear hQ stv6
  have hQ := hQ_
  clear hQ_
  refine wpList_value rfl (.bool ok) (by simp [go_sem]) ?_
  simp only [Act.put, List.setIfInBounds_toArray, List.set_cons_zero, List.set_cons_succ]
  clear hY
  cases ok with
  | true =>
    obtain rfl : er = 0 := HER.out

    go_upto_region 3 with fail
    have hKS : Keeps (fun w' => Box w' gP 29 (pArr x y z t) ∧ Box w' gQ 36 (qArr u v m)) := fun w w' h b => ⟨h.1.after b, h.2.after b⟩
    refine wp_region_U (w := v6) (fun w' => Box w' gP 29 (pArr x y z t) ∧ Box w' gQ 36 (qArr u v m)) rfl (⟨hP.drew, hQ.drew⟩) ?_
    replace hRP := hRP.drew
    replace hRQ := hRQ.drew
    replace hP := hP.drew
    replace hQ := hQ.drew
    replace hB := hB.drew
    replace hS := Nat.le_trans hS (show v6.heap.size ≤ v6.drew.heap.size from Nat.le_refl _)
    refine wpU_val 0 hKS rfl (by kernel_rfl) (by kernel_rfl) (by kernel_rfl) rfl (fun _ _ _ _ h => h) (.agg (pArr x y z t)) (fun w' h => run_load_box rfl h.1 (by simp [go_sem]) Try.underlying29 rfl (by rw [pArr_size x y z t]; kernel_rfl)) ?_
    simp only [Act.put, List.setIfInBounds_toArray, List.set_cons_zero, List.set_cons_succ]
    refine wpU_val 1 hKS rfl (by kernel_rfl) (by kernel_rfl) (by kernel_rfl) rfl (fun _ _ _ _ h => h) (.agg (qArr u v m)) (fun w' h => run_load_box rfl h.2 (by simp [go_sem]) Try.underlying36 rfl (by rw [qArr_size u v m]; kernel_rfl)) ?_
    simp only [Act.put, List.setIfInBounds_toArray, List.set_cons_zero, List.set_cons_succ]
    refine wpU_val 2 hKS rfl (by kernel_rfl) (by kernel_rfl) (by kernel_rfl) rfl (fun _ _ _ _ h => h) (.bool true) (fun w' h => by simp [go_sem]) ?_
    simp only [Act.put, List.setIfInBounds_toArray, List.set_cons_zero, List.set_cons_succ]
    refine wpU_val 3 hKS rfl (by kernel_rfl) (by kernel_rfl) (by kernel_rfl) rfl (fun _ _ _ _ h => h) (.bool true) (fun w' h => by simp [go_sem]) ?_
    simp only [Act.put, List.setIfInBounds_toArray, List.set_cons_zero, List.set_cons_succ]
    refine wpU_val 4 hKS rfl (by kernel_rfl) (by kernel_rfl) (by kernel_rfl) rfl (fun _ _ _ _ h => h) (.int .i64 0) (fun w' h => by simp [go_sem]) ?_
    simp only [Act.put, List.setIfInBounds_toArray, List.set_cons_zero, List.set_cons_succ]
    refine wpU_val 5 hKS rfl (by kernel_rfl) (by kernel_rfl) (by kernel_rfl) rfl (fun _ _ _ _ h => h) (.bool true) (fun w' h => by simp [go_sem]) ?_
    simp only [Act.put, List.setIfInBounds_toArray, List.set_cons_zero, List.set_cons_succ]
    refine wpU_val 6 hKS rfl (by kernel_rfl) (by kernel_rfl) (by kernel_rfl) rfl (fun _ _ _ _ h => h) (.bool true) (fun w' h => by simp [go_sem]) ?_
    simp only [Act.put, List.setIfInBounds_toArray, List.set_cons_zero, List.set_cons_succ]
    refine wpU_store_box (cells := pArr x y z t) 7 rfl (by kernel_rfl) rfl 29 (.tmp 2) (.tmp 19) rfl hRP (by simp [go_sem]) (by simp [go_sem]) (by rw [pArr_size x y z t]; rfl) (by rw [pArr_size x y z t]; kernel_rfl) (pArr_one _ _ _ _) ?_
    intro v7 v8 bv7 sS hRP_ stv8
    refine ⟨⟨stv8.box sS.1 n_P_RP, stv8.box sS.2 n_Q_RP⟩, ?_⟩
    simp only [Act.put]
    replace hRP := hRP.after bv7
    replace hRQ := hRQ.after bv7
    replace hP := hP.after bv7
    replace hQ := hQ.after bv7
    replace hB := hB.trans (bv7.mono hS)
    replace hS := Nat.le_trans hS bv7.size
    clear bv7
    replace hRQ := stv8.box hRQ n_RQ_RP
    replace hP := stv8.box hP n_P_RP
    replace hQ := stv8.box hQ n_Q_RP
    replace hB := stv8.below w.heap.size w lRP hB
    replace hS := Nat.le_trans hS (Nat.le_of_eq stv8.size.symm)
    clear hRP stv8 sS
    have hRP := hRP_
    clear hRP_
    refine wpU_store_box (cells := qArr u v m) 8 rfl (by kernel_rfl) rfl 36 (.tmp 3) (.tmp 20) rfl hRQ (by simp [go_sem]) (by simp [go_sem]) (by rw [qArr_size u v m]; rfl) (by rw [qArr_size u v m]; kernel_rfl) (qArr_one _ _ _) ?_
    intro v9 v10 bv9 sS hRQ_ stv10
    refine ⟨⟨stv10.box sS.1 n_P_RQ, stv10.box sS.2 n_Q_RQ⟩, ?_⟩
    simp only [Act.put]
    replace hRP := hRP.after bv9
    replace hRQ := hRQ.after bv9
    replace hP := hP.after bv9
    replace hQ := hQ.after bv9
    replace hB := hB.trans (bv9.mono hS)
    replace hS := Nat.le_trans hS bv9.size
    clear bv9
    replace hRP := stv10.box hRP n_RP_RQ
    replace hP := stv10.box hP n_P_RQ
    replace hQ := stv10.box hQ n_Q_RQ
    replace hB := stv10.below w.heap.size w lRQ hB
    replace hS := Nat.le_trans hS (Nat.le_of_eq stv10.size.symm)
    clear hRQ stv10 sS
    have hRQ := hRQ_
    clear hRQ_
    refine wpU_val 9 hKS rfl (by kernel_rfl) (by kernel_rfl) (by kernel_rfl) rfl (fun _ _ _ _ h => h) (.bool true) (fun w' h => by simp [go_sem]) ?_
    simp only [Act.put, List.setIfInBounds_toArray, List.set_cons_zero, List.set_cons_succ]
    refine wpU_done (by kernel_rfl) ?_
    intro v11 bv11 sS
    clear hKS sS
    replace hRP := hRP.after bv11
    replace hRQ := hRQ.after bv11
    replace hP := hP.after bv11
    replace hQ := hQ.after bv11
    replace hB := hB.trans (bv11.mono hS)
    replace hS := Nat.le_trans hS bv11.size
    clear bv11
    obtain ⟨GG, hG⟩ : ∃ GG, GG = pArr x y z t := ⟨_, rfl⟩
    rw [← hG] at hRP
    have HGS := Lib.hid (show GG.size = 20 by rw [hG]; exact pArr_size x y z t)
    have HGE := Lib.hid hG
    obtain ⟨QQ, hQQ⟩ : ∃ QQ, QQ = qArr u v m := ⟨_, rfl⟩
    rw [← hQQ] at hRQ
    have HQS := Lib.hid (show QQ.size = 48 by rw [hQQ]; exact qArr_size u v m)
    have HQE := Lib.hid hQQ
    clear hG hQQ hP hQ
    go_wp2_with fail
    exact bodyPost_ret (v := .tuple #[.agg GG, .agg QQ, .bool true]) (box_result3 (p := 2) (q := 3) (r := 4) rfl _ _ (by rfl) hRP Try.underlying29 rfl (by rw [HGS.out]; kernel_rfl) (by rfl) hRQ Try.underlying36 rfl (by rw [HQS.out]; kernel_rfl)) rfl ⟨x, y, z, t, u, v, m, by rw [HGE.out, HQE.out], fun _ => ⟨⟨_, _, _, _, (HEL.out (by first | rfl | trivial)).1, (HEL.out (by first | rfl | trivial)).2.1, (HEL.out (by first | rfl | trivial)).2.2.1, (HEL.out (by first | rfl | trivial)).2.2.2, HREP.out (by first | rfl | trivial)⟩, by obtain ⟨rfl, rfl, rfl⟩ := HQ.out (by first | rfl | trivial); exact (HREP.out (by first | rfl | trivial)).toRep3⟩, hB⟩
  | false =>
    clear HER

    go_upto_region 3 with fail
    have hKS : Keeps (fun w' => Box w' gP 29 (pArr x y z t) ∧ Box w' gQ 36 (qArr u v m)) := fun w w' h b => ⟨h.1.after b, h.2.after b⟩
    refine wp_region_U (w := v6) (fun w' => Box w' gP 29 (pArr x y z t) ∧ Box w' gQ 36 (qArr u v m)) rfl (⟨hP.drew, hQ.drew⟩) ?_
    replace hRP := hRP.drew
    replace hRQ := hRQ.drew
    replace hP := hP.drew
    replace hQ := hQ.drew
    replace hB := hB.drew
    replace hS := Nat.le_trans hS (show v6.heap.size ≤ v6.drew.heap.size from Nat.le_refl _)
    refine wpU_val 0 hKS rfl (by kernel_rfl) (by kernel_rfl) (by kernel_rfl) rfl (fun _ _ _ _ h => h) (.agg (pArr x y z t)) (fun w' h => run_load_box rfl h.1 (by simp [go_sem]) Try.underlying29 rfl (by rw [pArr_size x y z t]; kernel_rfl)) ?_
    simp only [Act.put, List.setIfInBounds_toArray, List.set_cons_zero, List.set_cons_succ]
    refine wpU_val 1 hKS rfl (by kernel_rfl) (by kernel_rfl) (by kernel_rfl) rfl (fun _ _ _ _ h => h) (.agg (qArr u v m)) (fun w' h => run_load_box rfl h.2 (by simp [go_sem]) Try.underlying36 rfl (by rw [qArr_size u v m]; kernel_rfl)) ?_
    simp only [Act.put, List.setIfInBounds_toArray, List.set_cons_zero, List.set_cons_succ]
    refine wpU_val 2 hKS rfl (by kernel_rfl) (by kernel_rfl) (by kernel_rfl) rfl (fun _ _ _ _ h => h) (.bool false) (fun w' h => by simp [go_sem]) ?_
    simp only [Act.put, List.setIfInBounds_toArray, List.set_cons_zero, List.set_cons_succ]
    refine wpU_val 3 hKS rfl (by kernel_rfl) (by kernel_rfl) (by kernel_rfl) rfl (fun _ _ _ _ h => h) (.bool false) (fun w' h => by simp [go_sem]) ?_
    simp only [Act.put, List.setIfInBounds_toArray, List.set_cons_zero, List.set_cons_succ]
    refine wpU_skip 4 hKS rfl (by kernel_rfl) (by kernel_rfl) (by kernel_rfl) rfl (fun _ _ _ _ h => h) ?_
    simp only [Act.put, List.setIfInBounds_toArray, List.set_cons_zero, List.set_cons_succ]
    refine wpU_skip 5 hKS rfl (by kernel_rfl) (by kernel_rfl) (by kernel_rfl) rfl (fun _ _ _ _ h => h) ?_
    simp only [Act.put, List.setIfInBounds_toArray, List.set_cons_zero, List.set_cons_succ]
    refine wpU_val 6 hKS rfl (by kernel_rfl) (by kernel_rfl) (by kernel_rfl) rfl (fun _ _ _ _ h => h) (.bool false) (fun w' h => by simp [go_sem]) ?_
    simp only [Act.put, List.setIfInBounds_toArray, List.set_cons_zero, List.set_cons_succ]
    refine wpU_store_box (cells := pArr x y z t) 7 rfl (by kernel_rfl) rfl 29 (.tmp 2) (.tmp 19) rfl hRP (by simp [go_sem]) (by simp [go_sem]) (by rw [pArr_size x y z t]; rfl) (by rw [pArr_size x y z t]; kernel_rfl) (pArr_one _ _ _ _) ?_
    intro v7 v8 bv7 sS hRP_ stv8
    refine ⟨⟨stv8.box sS.1 n_P_RP, stv8.box sS.2 n_Q_RP⟩, ?_⟩
    simp only [Act.put]
    replace hRP := hRP.after bv7
    replace hRQ := hRQ.after bv7
    replace hP := hP.after bv7
    replace hQ := hQ.after bv7
    replace hB := hB.trans (bv7.mono hS)
    replace hS := Nat.le_trans hS bv7.size
    clear bv7
    replace hRQ := stv8.box hRQ n_RQ_RP
    replace hP := stv8.box hP n_P_RP
    replace hQ := stv8.box hQ n_Q_RP
    replace hB := stv8.below w.heap.size w lRP hB
    replace hS := Nat.le_trans hS (Nat.le_of_eq stv8.size.symm)
    clear hRP stv8 sS
    have hRP := hRP_
    clear hRP_
    refine wpU_store_box (cells := qArr u v m) 8 rfl (by kernel_rfl) rfl 36 (.tmp 3) (.tmp 20) rfl hRQ (by simp [go_sem]) (by simp [go_sem]) (by rw [qArr_size u v m]; rfl) (by rw [qArr_size u v m]; kernel_rfl) (qArr_one _ _ _) ?_
    intro v9 v10 bv9 sS hRQ_ stv10
    refine ⟨⟨stv10.box sS.1 n_P_RQ, stv10.box sS.2 n_Q_RQ⟩, ?_⟩
    simp only [Act.put]
    replace hRP := hRP.after bv9
    replace hRQ := hRQ.after bv9
    replace hP := hP.after bv9
    replace hQ := hQ.after bv9
    replace hB := hB.trans (bv9.mono hS)
    replace hS := Nat.le_trans hS bv9.size
    clear bv9
    replace hRP := stv10.box hRP n_RP_RQ
    replace hP := stv10.box hP n_P_RQ
    replace hQ := stv10.box hQ n_Q_RQ
    replace hB := stv10.below w.heap.size w lRQ hB
    replace hS := Nat.le_trans hS (Nat.le_of_eq stv10.size.symm)
    clear hRQ stv10 sS
    have hRQ := hRQ_
    clear hRQ_
    refine wpU_val 9 hKS rfl (by kernel_rfl) (by kernel_rfl) (by kernel_rfl) rfl (fun _ _ _ _ h => h) (.bool false) (fun w' h => by simp [go_sem]) ?_
    simp only [Act.put, List.setIfInBounds_toArray, List.set_cons_zero, List.set_cons_succ]
    refine wpU_done (by kernel_rfl) ?_
    intro v11 bv11 sS
    clear hKS sS
    replace hRP := hRP.after bv11
    replace hRQ := hRQ.after bv11
    replace hP := hP.after bv11
    replace hQ := hQ.after bv11
    replace hB := hB.trans (bv11.mono hS)
    replace hS := Nat.le_trans hS bv11.size
    clear bv11
    obtain ⟨GG, hG⟩ : ∃ GG, GG = pArr x y z t := ⟨_, rfl⟩
    rw [← hG] at hRP
    have HGS := Lib.hid (show GG.size = 20 by rw [hG]; exact pArr_size x y z t)
    have HGE := Lib.hid hG
    obtain ⟨QQ, hQQ⟩ : ∃ QQ, QQ = qArr u v m := ⟨_, rfl⟩
    rw [← hQQ] at hRQ
    have HQS := Lib.hid (show QQ.size = 48 by rw [hQQ]; exact qArr_size u v m)
    have HQE := Lib.hid hQQ
    clear hG hQQ hP hQ
    go_wp2_with fail
    exact bodyPost_ret (v := .tuple #[.agg GG, .agg QQ, .bool false]) (box_result3 (p := 2) (q := 3) (r := 4) rfl _ _ (by rfl) hRP Try.underlying29 rfl (by rw [HGS.out]; kernel_rfl) (by rfl) hRQ Try.underlying36 rfl (by rw [HQS.out]; kernel_rfl)) rfl ⟨x, y, z, t, u, v, m, by rw [HGE.out, HQE.out], (fun h => by cases h), hB⟩
end Go.Proofs.Ytpkoniebbkkmjaa

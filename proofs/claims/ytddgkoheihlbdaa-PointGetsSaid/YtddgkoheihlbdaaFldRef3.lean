/- field: the document's Raw: what it computes. -/
import Derived.Test.YtddgkoheihlbdaaFldRef2
import Derived.Deep.RegionHeld3
namespace Go.Proofs.Ytddgkoheihlbdaa
open Go.RowKit

theorem leNat_pair (l : List UInt8) (k : Nat) : dig (leNat l) k = (l.getD (2 * k) 0).toNat + 256 * (l.getD (2 * k + 1) 0).toNat := by
  rw [← leNat_byte, ← leNat_byte, Nat.pow_succ, ← Nat.div_div_eq_div_mul, Nat.pow_mul]
  show leNat l / (65536 : Nat) ^ k % 65536 = leNat l / (65536 : Nat) ^ k % 256 + 256 * (leNat l / (65536 : Nat) ^ k / 256 % 256)
  omega

theorem dig_inj (n m : Nat) (hn : n < 115792089237316195423570985008687907853269984665640564039457584007913129639936) (hm : m < 115792089237316195423570985008687907853269984665640564039457584007913129639936) (h : ∀ j, j < 16 → dig n j = dig m j) : n = m := by
  have h1 := fval_congr 16 h
  rw [fval_of_dig, fval_of_dig] at h1
  simp only [Nat.reducePow] at h1
  rwa [Nat.mod_eq_of_lt hn, Nat.mod_eq_of_lt hm] at h1

theorem equal_arr64 {P : Program} (w : World) (t e : TypeId) (n m : Nat) (C D : Nat → Nat) (xs ys : Array Value) (h : P.underlying t = some (.array n e))
    (he : ∀ a b : Int, (Op.equalIn m e (.int .u64 a) (.int .u64 b)).run P w = .ok (a == b) w)
    (hz : (sizeOf e).run P w = .ok 1 w) (hp : (isAgg e).run P w = .ok false w)
    (hx : ∀ i, i < n → xs[i]? = some (.int .u64 (C i : Nat))) (hy : ∀ i, i < n → ys[i]? = some (.int .u64 (D i : Nat))) :
    (Op.equalIn (m + 1) t (.agg xs) (.agg ys)).run P w = .ok (decide (∀ i, i < n → C i = D i)) w := by
  simp only [Op.equalIn, Sem.run_bind, run_underlying h, Result.andThen_ok, hz, Std.Legacy.Range.forIn_eq_forIn_range', Std.Legacy.Range.size, Nat.mul_one, Nat.sub_zero, Nat.add_sub_cancel, Nat.div_one]
  have key : ∀ k s, s + k = n → ((forIn (List.range' s k) ((none, ()) : Option Bool × Unit) fun i __s => do
      let a ← part e xs i
      let b ← part e ys i
      let r ← Op.equalIn m e a b
      if (!r) = true then pure (ForInStep.done (some false, ())) else pure (ForInStep.yield (none, ()))) : Sem (Option Bool × Unit)).run P w = .ok (if ∀ i, i < n → s ≤ i → C i = D i then (none, ()) else (some false, ())) w := by
    intro k
    induction k with
    | zero => intro s hs; rw [if_pos (fun i h1 h2 => absurd h1 (by omega))]; simp
    | succ k ih =>
      intro s hs
      simp only [List.range'_succ, List.forIn_cons, Sem.run_bind, part_one w e xs s _ hp (hx s (by omega)), part_one w e ys s _ hp (hy s (by omega)), Result.andThen_ok, he]
      by_cases hc : C s = D s
      · have hq : ((C s : Int) == (D s : Int)) = true := by simp [hc]
        simp only [hq, Bool.not_true, Bool.false_eq_true, if_false, Sem.run_pure, Result.andThen_ok]
        rw [ih (s + 1) (by omega)]
        congr 2
        apply propext
        exact ⟨fun g i h1 h2 => if hi : i = s then hi ▸ hc else g i h1 (by omega), fun g i h1 h2 => g i h1 (by omega)⟩
      · have hq : ((C s : Int) == (D s : Int)) = false := by simp; omega
        simp only [hq, Bool.not_false, if_true, Sem.run_pure, Result.andThen_ok]
        rw [if_neg (fun g => hc (g s (by omega) (by omega)))]
  rw [key n 0 (by omega)]
  by_cases hall : ∀ i, i < n → C i = D i
  · rw [if_pos (fun i h2 _ => hall i h2)]; simpa using hall
  · rw [if_neg (fun g => hall (fun i h2 => g i h2 (by omega)))]; simpa using hall

theorem eql_fArr (n m : Nat) (hn : n < 115792089237316195423570985008687907853269984665640564039457584007913129639936) (hm : m < 115792089237316195423570985008687907853269984665640564039457584007913129639936) (w : World) : (Op.equalIn 10000 34 (.agg (fArr (dig n))) (.agg (fArr (dig m)))).run Try.prog w = .ok (n == m) w := by
  have key : ∀ k, k = 16 → decide (∀ i, i < k → dig n i = dig m i) = (n == m) := by
    rintro k rfl
    rw [Bool.eq_iff_iff]
    simp only [decide_eq_true_eq, beq_iff_eq]
    exact ⟨dig_inj n m hn hm, fun h _ _ => by rw [h]⟩
  rw [equal_arr64 w 34 23 16 9999 _ _ _ _ (by kernel_rfl) (fun a b => run_equalIn_int w 9998 _ _ .u64 a b (by kernel_rfl)) (by simp [go_sem]) (by simp [go_sem]) (fun i hi => fArr_get _ i hi) (fun i hi => fArr_get _ i hi), key _ rfl]

set_option maxRecDepth 100000 in
set_option maxHeartbeats 1000000 in
theorem refRaw_any (l : List UInt8) (a : Option Addr) (cap : Nat) (w : World) (hs : Sl w a 32 cap l) :
    Calls Try.prog 24 #[.slice a 32 cap] w fun e w' => e = .returned (.tuple #[.agg (fArr (dig (leNat l % P25))), .bool (leNat l % P25 == leNat l)]) ∧ Below w.heap.size w w' := by
  obtain ⟨b, o, rfl, hcell⟩ : ∃ b o, a = some ⟨b, o, none⟩ ∧ ∀ i, i < 32 → w.cell? ⟨b, o + i, none⟩ = some (.int .u8 ((l.getD i 0).toNat : Int)) := by
    obtain ⟨h1, h2, h3, h5, h4⟩ := hs
    rcases h4 with h4 | h4
    · omega
    · exact h4
  have hlen : l.length = 32 := hs.1.symm
  have hcap : 32 ≤ cap := hs.2.1
  have hb : b < w.heap.size := cell_lt (hcell 0 (by omega))
  have HC := Lib.hid hcell
  have hnl := leNat_lt l
  rw [hlen] at hnl
  have hp := leNat_pair l
  obtain ⟨n, hn⟩ : ∃ n, n = leNat l := ⟨_, rfl⟩
  rw [← hn] at hnl hp ⊢
  have HP := Lib.hid hp
  have HN := Lib.hid (show n < 115792089237316195423570985008687907853269984665640564039457584007913129639936 by simpa using hnl)
  clear hn hcell hs hlen hp hnl
  obtain ⟨Z, hZ⟩ : ∃ Z, Z = Array.replicate 16 (Value.int .u64 0) := ⟨_, rfl⟩
  go_enter Try.func24, Try.ntmps24
  go_upto_region 1 with fail
  have g0 := Box.new w 34 (Array.replicate 16 (Value.int .u64 0))
  have g1 : Below w.heap.size w (w.alloc (.cells (Array.replicate 16 (Value.int .u64 0)) 34)) := (Below.refl _ _).alloc (Nat.le_refl _) _
  have g2 : (w.alloc (.cells (Array.replicate 16 (Value.int .u64 0)) 34)).heap.size = w.heap.size + 1 := by simp
  change Code.wp _ _ _ _ (w.alloc (.cells (Array.replicate 16 (Value.int .u64 0)) 34))
  generalize (w.alloc (.cells (Array.replicate 16 (Value.int .u64 0)) 34)) = W at *
  go_step
  refine wpList_value rfl (.agg (Array.replicate 16 (Value.int .u64 0))) (by simp [go_sem]; rfl) ?_
  refine wpList_alloc_box rfl 34 rfl (Array.replicate 16 (Value.int .u64 0)) (by intro w; simp [go_sem]; rfl) ?_
  refine wpList_store_box rfl 34 _ _ rfl (Box.new _ _ _) (by rfl) (by rfl) rfl (by kernel_rfl) (fArr_zero ▸ fArr_one _) ?_
  intro w2 hX2 hst
  have hZ2 := hst.box (g0.alloc _) (by omega)
  have hB2 := hst.below w.heap.size w (by omega) (g1.alloc (by omega) _)
  have hS2 : w.heap.size + 2 = w2.heap.size := by have := hst.size; simp at this; omega
  rw [g2] at hX2
  simp only [Act.put, List.setIfInBounds_toArray, List.set_cons_zero, List.set_cons_succ]
  rw [g2]
  clear hst g0 g1 g2
  have hS2' : w.heap.size + 2 ≤ w2.heap.size := by omega
  clear hS2
  go_wp2_with fail
  go_loopw [5] (fun i wr => ∃ k : Nat, k ≤ 16 ∧ i = .int .i64 k ∧ Box wr (w.heap.size + 1) 34 (fArr (digTo n k)) ∧ Box wr w.heap.size 34 Z ∧ Below w.heap.size w wr ∧ w.heap.size + 2 ≤ wr.heap.size) (fun i _ => 16 - (intOf i).toNat)
  case atStart => exact ⟨0, by omega, rfl, by rw [digTo_zero, fArr_zero]; exact hX2, hZ ▸ hZ2, hB2, hS2'⟩
  case round =>
    obtain ⟨wa, rfl⟩ : ∃ wa : World, wa = wr := ⟨_, rfl⟩
    obtain ⟨k, hk, rfl, hX, hZa, hB, hS⟩ := hrel
    clear hX2 hZ2 hB2 hS2'
    by_cases hlt : k < 16
    · have c0 : wa.cell? ⟨b, o + 2 * k, none⟩ = some (.int .u8 ((l.getD (2 * k) 0).toNat : Int)) := (hB.cell (p := ⟨b, o + 2 * k, none⟩) hb).trans (HC.out _ (by omega))
      have c1 : wa.cell? ⟨b, o + (2 * k + 1), none⟩ = some (.int .u8 ((l.getD (2 * k + 1) 0).toNat : Int)) := (hB.cell (p := ⟨b, o + (2 * k + 1), none⟩) hb).trans (HC.out _ (by omega))
      have hp := HP.out k
      have l0 := (l.getD (2 * k) 0).toNat_lt
      have l1 := (l.getD (2 * k + 1) 0).toNat_lt
      have hd := digTo_set n k
      have gx := hX.cell k (fArr_get (digTo n k) k (by omega))
      have fx := hX.frozen k
      obtain ⟨y0, hy0⟩ : ∃ y, y = (l.getD (2 * k) 0).toNat := ⟨_, rfl⟩
      obtain ⟨y1, hy1⟩ : ∃ y, y = (l.getD (2 * k + 1) 0).toNat := ⟨_, rfl⟩
      rw [← hy0] at c0 hp l0
      rw [← hy1] at c1 hp l1
      obtain ⟨r, hre⟩ : ∃ r, r = dig n k := ⟨_, rfl⟩
      rw [← hre] at hp hd
      have HD := Lib.hid hd
      generalize digTo n k k = u0 at gx
      obtain ⟨q, hq⟩ : ∃ q, q = 2 * k := ⟨_, rfl⟩
      rw [← hq] at c0 c1
      obtain ⟨q1, hq1⟩ : ∃ q1, q1 = q + 1 := ⟨_, rfl⟩
      rw [← hq1] at c1
      have i1 : IntKind.i64.wrap (2 * (k : Int)) = (q : Int) := by rw [IntKind.wrap_i64]; omega
      have i2 : IntKind.i64.wrap ((q : Int) + 1) = (q1 : Int) := by rw [IntKind.wrap_i64]; omega
      have i3 : IntKind.u64.wrap (y0 : Int) = (y0 : Int) := by rw [IntKind.wrap_u64]; omega
      have i4 : IntKind.u64.wrap (y1 : Int) = (y1 : Int) := by rw [IntKind.wrap_u64]; omega
      obtain ⟨z, hz⟩ : ∃ z, z = 256 * y1 := ⟨_, rfl⟩
      have i5 : IntKind.u64.wrap (256 * (y1 : Int)) = (z : Int) := by rw [IntKind.wrap_u64]; omega
      have i6 : IntKind.u64.wrap ((y0 : Int) + (z : Int)) = (r : Int) := by rw [IntKind.wrap_u64]; omega
      have i7 : IntKind.i64.wrap (q : Int) = (q : Int) := by rw [IntKind.wrap_i64]; omega
      have i8 : IntKind.i64.wrap (q1 : Int) = (q1 : Int) := by rw [IntKind.wrap_i64]; omega
      have b1 : (0 : Int) ≤ (q : Int) := by omega
      have b2 : (q : Int) < 32 := by omega
      have b3 : (0 : Int) ≤ (q1 : Int) := by omega
      have b4 : (q1 : Int) < 32 := by omega
      have b5 : (0 : Int) ≤ (k : Int) := by omega
      have b6 : (k : Int) < 16 := by omega
      clear hd hp hre hy0 hy1 hq hq1 hz
      go_upto_region 5 with fail
      go_still_tail 17, (by kernel_rfl)
      change wpList _ _ _ _ _ wa.drew
      go_wp2_with fail
      refine ⟨⟨k + 1, by omega, by go_num, ?_, (hZa.far _ _ (by simp)), (hB.setCell (by simp) _).drew, by simpa using hS⟩, by simp [intOf]; omega⟩
      have h1 := hX.set k (.int .u64 (r : Nat))
      rw [fArr_set, HD.out] at h1
      exact h1
    · obtain rfl : k = 16 := by omega
      have hlt16 := HN.out
      rw [fArr_congr (digTo_all n 16 (by simpa using HN.out))] at hX
      have hZs : Z.size = 16 := by rw [hZ]; rfl
      have HZS := Lib.hid hZs
      have HZ := Lib.hid hZ
      have hHB := Lib.hid (show ∀ j, j < 16 → dig n j < 140737488355328 from fun j _ => by have := dig_lt n j; omega)
      have hfv : fval (dig n) 16 = n := by
        rw [fval_of_dig]; exact Nat.mod_eq_of_lt (by simpa using HN.out)
      have HFIT : Hid (∀ w, Calls Try.prog 62 #[.agg (fArr (dig n))] w fun e w' => e = .returned (.agg (fArr (dig (n % P25)))) ∧ Below w.heap.size w w') := by
        refine Lib.hid fun w => ?_
        have := fit_any (dig n) w hHB.out
        rwa [hfv] at this
      have HEQ : Hid (∀ w : World, (Op.equalIn 10000 34 (.agg (fArr (dig (n % P25)))) (.agg (fArr (dig n)))).run Try.prog w = .ok (n % P25 == n) w) :=
        Lib.hid (eql_fArr _ _ (Nat.lt_of_le_of_lt (Nat.mod_le _ _) hlt16) hlt16)
      obtain ⟨X, hXe⟩ : ∃ X, X = fArr (dig n) := ⟨_, rfl⟩
      obtain ⟨Y, hYe⟩ : ∃ Y, Y = fArr (dig (n % P25)) := ⟨_, rfl⟩
      obtain ⟨r, hre⟩ : ∃ r, r = (n % P25 == n) := ⟨_, rfl⟩
      rw [← hXe] at hX
      rw [← hXe, ← hYe] at HFIT HEQ
      rw [← hre] at HEQ
      have HYE := Lib.hid hYe
      have HRE := Lib.hid hre
      have HXS := Lib.hid (show X.size = 16 by rw [hXe]; exact fArr_size _)
      have HYS := Lib.hid (show Y.size = 16 by rw [hYe]; exact fArr_size _)
      have HX1 := Lib.hid (show X.all (·.oneCell') = true by rw [hXe]; exact fArr_one _)
      have HY1 := Lib.hid (show Y.all (·.oneCell') = true by rw [hYe]; exact fArr_one _)
      clear hfv hZ hZs hXe hYe hre hlt16
      have hz16 : (Array.replicate 16 (Value.int .u64 0)).size = 16 := rfl
      go_upto_region 6 with fail
      go_step
      refine wpList_load_box rfl 34 _ rfl hX (by rfl) Try.underlying34 rfl (by rw [HXS.out]; kernel_rfl) ?_
      refine wpList_alloc_box rfl 34 rfl (Array.replicate 16 (Value.int .u64 0)) (by intro w; simp [go_sem]; rfl) ?_
      refine wpList_store_box rfl 34 _ _ rfl (Box.new _ _ _) (by rfl) (by rfl) (by rw [HXS.out]; rfl) (by rw [HXS.out]; kernel_rfl) HX1.out ?_
      intro w3 hX3 hst
      have hZ3 := hst.box (hZa.alloc _) (by omega)
      have hX3' := hst.box (hX.alloc _) (by omega)
      have hB3 := hst.below w.heap.size w (by omega) (hB.alloc (by omega) _)
      have hS3 : wa.heap.size + 1 = w3.heap.size := by have := hst.size; simp at this; omega
      simp only [Act.put, List.setIfInBounds_toArray, List.set_cons_zero, List.set_cons_succ]
      clear hst hX hZa hB hz16
      have hO : w.heap.size + 2 ≤ wa.heap.size := hS
      clear hS
      generalize wa.heap.size = O at *
      go_upto_region 7 with fail
      go_step
      refine wpList_load_box rfl 34 _ rfl hX3 (by rfl) Try.underlying34 rfl (by rw [HXS.out]; kernel_rfl) ?_
      refine wpList_enter rfl 62 #[.agg X] (by simp [go_sem, Act.put]) _ _ (HFIT.out _) ?_
      intro w4 hb4
      have hZ4 := hZ3.below hb4 (by omega)
      have hX4 := hX3'.below hb4 (by omega)
      have hB4 := hB3.trans (hb4.mono (by omega))
      have hS4 := hb4.size
      clear hZ3 hX3 hX3' hB3 hb4
      refine wpList_alloc_box rfl 34 rfl (Array.replicate 16 (Value.int .u64 0)) (by intro w; simp [go_sem]; rfl) ?_
      refine wpList_store_box rfl 34 _ _ rfl (Box.new _ _ _) (by rfl) (by rfl) (by rw [HYS.out]; rfl) (by rw [HYS.out]; kernel_rfl) HY1.out ?_
      intro w5 hY5 hst
      have hZ5 := hst.box (hZ4.alloc _) (by omega)
      have hX5 := hst.box (hX4.alloc _) (by omega)
      have hB5 := hst.below w.heap.size w (by omega) (hB4.alloc (by omega) _)
      have hO5 : w.heap.size + 3 ≤ w4.heap.size := by omega
      simp only [Act.put, List.setIfInBounds_toArray, List.set_cons_zero, List.set_cons_succ]
      clear hst hZ4 hX4 hB4 hS4 hS3 hO
      generalize w4.heap.size = O5 at *
      go_upto_region 8 with fail
      have hS0 : ∀ k, k ≠ w.heap.size → w5.drew.heap[k]? = w5.heap[k]? := fun _ _ => rfl
      refine wp_region_held_drew (S := fun w' => ∀ k, k ≠ w.heap.size → w'.heap[k]? = w5.heap[k]?) rfl hS0 (fun _ => ?_)
      have LY : ∀ w' : World, (∀ k, k ≠ w.heap.size → w'.heap[k]? = w5.heap[k]?) → Box w' O5 34 Y := fun w' h => (h _ (by omega)).trans hY5
      have LX : ∀ w' : World, (∀ k, k ≠ w.heap.size → w'.heap[k]? = w5.heap[k]?) → Box w' (w.heap.size + 1) 34 X := fun w' h => (h _ (by omega)).trans hX5
      refine wpH_take 0 rfl (by kernel_rfl) (by kernel_rfl) (by kernel_rfl) rfl (fun _ _ _ _ h => h) (.agg Y) (fun w' h => run_load_box rfl (LY w' h) (by rfl) Try.underlying34 rfl (by rw [HYS.out]; kernel_rfl)) hS0 ?_
      refine wpH_take 1 rfl (by kernel_rfl) (by kernel_rfl) (by kernel_rfl) rfl (fun _ _ _ _ h => h) (.agg Y) (fun w' h => run_load_box rfl (LY w' h) (by rfl) Try.underlying34 rfl (by rw [HYS.out]; kernel_rfl)) hS0 ?_
      refine wpH_take 2 rfl (by kernel_rfl) (by kernel_rfl) (by kernel_rfl) rfl (fun _ _ _ _ h => h) (.agg X) (fun w' h => run_load_box rfl (LX w' h) (by rfl) Try.underlying34 rfl (by rw [HXS.out]; kernel_rfl)) hS0 ?_
      refine wpH_take 3 rfl (by kernel_rfl) (by kernel_rfl) (by kernel_rfl) rfl (fun _ _ _ _ h => h) (.bool r) (fun w' h => by simp [go_sem, HEQ.out, Act.put]) hS0 ?_
      refine wpH_store_box 4 rfl (by kernel_rfl) rfl 34 (.tmp 2) (.tmp 33) rfl hZ5.drew (by rfl) (by rfl) (by rw [HZS.out, HYS.out]) (by rw [HYS.out]; kernel_rfl) HY1.out ?_
      intro w6 hY6 hst
      refine ⟨fun k hk => (hst.other k hk).trans rfl, ?_⟩
      refine wpH_take 5 rfl (by kernel_rfl) (by kernel_rfl) (by kernel_rfl) rfl (fun _ _ _ _ h => h) (.bool r) (fun w' h => by simp [go_sem, Act.put]) (fun k hk => (hst.other k hk).trans rfl) ?_
      refine wpAnyH_done (by kernel_rfl) ?_ _
      have hB6 := hst.below _ _ (Nat.le_refl _) hB5.drew
      simp only [Act.put, List.setIfInBounds_toArray, List.set_cons_zero, List.set_cons_succ]
      clear LX LY hS0 hst hX5 hY5 hZ5 hB5
      go_wp2_with fail
      exact bodyPost_ret (v := .tuple #[.agg Y, .bool r]) (box_result2 (p := 2) (q := 3) rfl _ _ (by rfl) hY6 Try.underlying34 rfl (by rw [HYS.out]; kernel_rfl)) rfl ⟨by rw [HYE.out, HRE.out], hB6⟩
end Go.Proofs.Ytddgkoheihlbdaa

/- field: the document's Raw: what it computes. field: the document's Bytes: what it computes. field: Same: what it computes. field: Get: what it computes. field: whether an element is the document's. field: Sub, Add: what they compute. field: the document's example; FieldGets: the walk. field: the document's Add, Neg, Sub: what they compute. -/
import Derived.Test.YtpkoniebbkkmjaaPnG2
import Derived.Deep.RegionHeld3
import Derived.StillTailTactics
import Derived.Deep.Cut
namespace Go.Proofs.Ytpkoniebbkkmjaa
open Go.RowKit

theorem leNat_pair (l : List UInt8) (k : Nat) : dig (leNat l) k = (l.getD (2 * k) 0).toNat + 256 * (l.getD (2 * k + 1) 0).toNat := by
  rw [← leNat_byte, ← leNat_byte, Nat.pow_succ, ← Nat.div_div_eq_div_mul, Nat.pow_mul]
  show leNat l / (65536 : Nat) ^ k % 65536 = leNat l / (65536 : Nat) ^ k % 256 + 256 * (leNat l / (65536 : Nat) ^ k / 256 % 256)
  omega

theorem dig_inj (n m : Nat) (hn : n < 115792089237316195423570985008687907853269984665640564039457584007913129639936) (hm : m < 115792089237316195423570985008687907853269984665640564039457584007913129639936) (h : ∀ j, j < 16 → dig n j = dig m j) : n = m := by
  have h1 := fval_congr 16 h
  rw [fval_of_dig, fval_of_dig] at h1
  simp only [Nat.reducePow] at h1
  rwa [Nat.mod_eq_of_lt hn, Nat.mod_eq_of_lt hm] at h1

theorem equal_arr64 {P : Program} (w : World) (t e : TypeId) (n m : Nat) (C D : Nat → Nat) (xs ys : Array Value) (h : P.underlying t = some (.array n e))
    (he : ∀ a b : Int, (Op.equalIn m e (.int .u64 a) (.int .u64 b)).run P w = .ok (a == b) w)
    (hz : (sizeOf e).run P w = .ok 1 w) (hp : (isAgg e).run P w = .ok false w)
    (hx : ∀ i, i < n → xs[i]? = some (.int .u64 (C i : Nat))) (hy : ∀ i, i < n → ys[i]? = some (.int .u64 (D i : Nat))) :
    (Op.equalIn (m + 1) t (.agg xs) (.agg ys)).run P w = .ok (decide (∀ i, i < n → C i = D i)) w := by
  simp only [Op.equalIn, Sem.run_bind, run_underlying h, Result.andThen_ok, hz, Std.Legacy.Range.forIn_eq_forIn_range', Std.Legacy.Range.size, Nat.mul_one, Nat.sub_zero, Nat.add_sub_cancel, Nat.div_one]
  have key : ∀ k s, s + k = n → ((forIn (List.range' s k) ((none, ()) : Option Bool × Unit) fun i __s => do
      let a ← part e xs i
      let b ← part e ys i
      let r ← Op.equalIn m e a b
      if (!r) = true then pure (ForInStep.done (some false, ())) else pure (ForInStep.yield (none, ()))) : Sem (Option Bool × Unit)).run P w = .ok (if ∀ i, i < n → s ≤ i → C i = D i then (none, ()) else (some false, ())) w := by
    intro k
    induction k with
    | zero => intro s hs; rw [if_pos (fun i h1 h2 => absurd h1 (by omega))]; simp
    | succ k ih =>
      intro s hs
      simp only [List.range'_succ, List.forIn_cons, Sem.run_bind, part_one w e xs s _ hp (hx s (by omega)), part_one w e ys s _ hp (hy s (by omega)), Result.andThen_ok, he]
      by_cases hc : C s = D s
      · have hq : ((C s : Int) == (D s : Int)) = true := by simp [hc]
        simp only [hq, Bool.not_true, Bool.false_eq_true, if_false, Sem.run_pure, Result.andThen_ok]
        rw [ih (s + 1) (by omega)]
        congr 2
        apply propext
        exact ⟨fun g i h1 h2 => if hi : i = s then hi ▸ hc else g i h1 (by omega), fun g i h1 h2 => g i h1 (by omega)⟩
      · have hq : ((C s : Int) == (D s : Int)) = false := by simp; omega
        simp only [hq, Bool.not_false, if_true, Sem.run_pure, Result.andThen_ok]
        rw [if_neg (fun g => hc (g s (by omega) (by omega)))]
  rw [key n 0 (by omega)]
  by_cases hall : ∀ i, i < n → C i = D i
  · rw [if_pos (fun i h2 _ => hall i h2)]; simpa using hall
  · rw [if_neg (fun g => hall (fun i h2 => g i h2 (by omega)))]; simpa using hall

theorem eql_fArr (n m : Nat) (hn : n < 115792089237316195423570985008687907853269984665640564039457584007913129639936) (hm : m < 115792089237316195423570985008687907853269984665640564039457584007913129639936) (w : World) : (Op.equalIn 10000 34 (.agg (fArr (dig n))) (.agg (fArr (dig m)))).run Try.prog w = .ok (n == m) w := by
  have key : ∀ k, k = 16 → decide (∀ i, i < k → dig n i = dig m i) = (n == m) := by
    rintro k rfl
    rw [Bool.eq_iff_iff]
    simp only [decide_eq_true_eq, beq_iff_eq]
    exact ⟨dig_inj n m hn hm, fun h _ _ => by rw [h]⟩
  rw [equal_arr64 w 34 24 16 9999 _ _ _ _ (by kernel_rfl) (fun a b => run_equalIn_int w 9998 _ _ .u64 a b (by kernel_rfl)) (by simp [go_sem]) (by simp [go_sem]) (fun i hi => fArr_get _ i hi) (fun i hi => fArr_get _ i hi), key _ rfl]

set_option maxRecDepth 100000 in
set_option maxHeartbeats 1000000 in
theorem refRaw_any (l : List UInt8) (a : Option Addr) (cap : Nat) (w : World) (hs : Sl w a 32 cap l) :
    Calls Try.prog 37 #[.slice a 32 cap] w fun e w' => e = .returned (.tuple #[.agg (fArr (dig (leNat l % P25))), .bool (leNat l % P25 == leNat l)]) ∧ Below w.heap.size w w' := by
  obtain ⟨b, o, rfl, hcell⟩ : ∃ b o, a = some ⟨b, o, none⟩ ∧ ∀ i, i < 32 → w.cell? ⟨b, o + i, none⟩ = some (.int .u8 ((l.getD i 0).toNat : Int)) := by
    obtain ⟨h1, h2, h3, h5, h4⟩ := hs
    rcases h4 with h4 | h4
    · omega
    · exact h4
  have hlen : l.length = 32 := hs.1.symm
  have hcap : 32 ≤ cap := hs.2.1
  have hb : b < w.heap.size := cell_lt (hcell 0 (by omega))
  have HC := Lib.hid hcell
  have hnl := leNat_lt l
  rw [hlen] at hnl
  have hp := leNat_pair l
  obtain ⟨n, hn⟩ : ∃ n, n = leNat l := ⟨_, rfl⟩
  rw [← hn] at hnl hp ⊢
  have HP := Lib.hid hp
  have HN := Lib.hid (show n < 115792089237316195423570985008687907853269984665640564039457584007913129639936 by simpa using hnl)
  clear hn hcell hs hlen hp hnl
  obtain ⟨Z, hZ⟩ : ∃ Z, Z = Array.replicate 16 (Value.int .u64 0) := ⟨_, rfl⟩
  go_enter Try.func37, Try.ntmps37
  go_upto_region 1 with fail
  have g0 := Box.new w 34 (Array.replicate 16 (Value.int .u64 0))
  have g1 : Below w.heap.size w (w.alloc (.cells (Array.replicate 16 (Value.int .u64 0)) 34)) := (Below.refl _ _).alloc (Nat.le_refl _) _
  have g2 : (w.alloc (.cells (Array.replicate 16 (Value.int .u64 0)) 34)).heap.size = w.heap.size + 1 := by simp
  change Code.wp _ _ _ _ (w.alloc (.cells (Array.replicate 16 (Value.int .u64 0)) 34))
  generalize (w.alloc (.cells (Array.replicate 16 (Value.int .u64 0)) 34)) = W at *
  go_step
  refine wpList_value rfl (.agg (Array.replicate 16 (Value.int .u64 0))) (by simp [go_sem]; rfl) ?_
  refine wpList_alloc_box rfl 34 rfl (Array.replicate 16 (Value.int .u64 0)) (by intro w; simp [go_sem]; rfl) ?_
  refine wpList_store_box rfl 34 _ _ rfl (Box.new _ _ _) (by rfl) (by rfl) rfl (by kernel_rfl) (fArr_zero ▸ fArr_one _) ?_
  intro w2 hX2 hst
  have hZ2 := hst.box (g0.alloc _) (by omega)
  have hB2 := hst.below w.heap.size w (by omega) (g1.alloc (by omega) _)
  have hS2 : w.heap.size + 2 = w2.heap.size := by have := hst.size; simp at this; omega
  rw [g2] at hX2
  simp only [Act.put, List.setIfInBounds_toArray, List.set_cons_zero, List.set_cons_succ]
  rw [g2]
  clear hst g0 g1 g2
  have hS2' : w.heap.size + 2 ≤ w2.heap.size := by omega
  clear hS2
  go_wp2_with fail
  go_loopw [5] (fun i wr => ∃ k : Nat, k ≤ 16 ∧ i = .int .i64 k ∧ Box wr (w.heap.size + 1) 34 (fArr (digTo n k)) ∧ Box wr w.heap.size 34 Z ∧ Below w.heap.size w wr ∧ w.heap.size + 2 ≤ wr.heap.size) (fun i _ => 16 - (intOf i).toNat)
  case atStart => exact ⟨0, by omega, rfl, by rw [digTo_zero, fArr_zero]; exact hX2, hZ ▸ hZ2, hB2, hS2'⟩
  case round =>
    obtain ⟨wa, rfl⟩ : ∃ wa : World, wa = wr := ⟨_, rfl⟩
    obtain ⟨k, hk, rfl, hX, hZa, hB, hS⟩ := hrel
    clear hX2 hZ2 hB2 hS2'
    by_cases hlt : k < 16
    · have c0 : wa.cell? ⟨b, o + 2 * k, none⟩ = some (.int .u8 ((l.getD (2 * k) 0).toNat : Int)) := (hB.cell (p := ⟨b, o + 2 * k, none⟩) hb).trans (HC.out _ (by omega))
      have c1 : wa.cell? ⟨b, o + (2 * k + 1), none⟩ = some (.int .u8 ((l.getD (2 * k + 1) 0).toNat : Int)) := (hB.cell (p := ⟨b, o + (2 * k + 1), none⟩) hb).trans (HC.out _ (by omega))
      have hp := HP.out k
      have l0 := (l.getD (2 * k) 0).toNat_lt
      have l1 := (l.getD (2 * k + 1) 0).toNat_lt
      have hd := digTo_set n k
      have gx := hX.cell k (fArr_get (digTo n k) k (by omega))
      have fx := hX.frozen k
      obtain ⟨y0, hy0⟩ : ∃ y, y = (l.getD (2 * k) 0).toNat := ⟨_, rfl⟩
      obtain ⟨y1, hy1⟩ : ∃ y, y = (l.getD (2 * k + 1) 0).toNat := ⟨_, rfl⟩
      rw [← hy0] at c0 hp l0
      rw [← hy1] at c1 hp l1
      obtain ⟨r, hre⟩ : ∃ r, r = dig n k := ⟨_, rfl⟩
      rw [← hre] at hp hd
      have HD := Lib.hid hd
      generalize digTo n k k = u0 at gx
      obtain ⟨q, hq⟩ : ∃ q, q = 2 * k := ⟨_, rfl⟩
      rw [← hq] at c0 c1
      obtain ⟨q1, hq1⟩ : ∃ q1, q1 = q + 1 := ⟨_, rfl⟩
      rw [← hq1] at c1
      have i1 : IntKind.i64.wrap (2 * (k : Int)) = (q : Int) := by rw [IntKind.wrap_i64]; omega
      have i2 : IntKind.i64.wrap ((q : Int) + 1) = (q1 : Int) := by rw [IntKind.wrap_i64]; omega
      have i3 : IntKind.u64.wrap (y0 : Int) = (y0 : Int) := by rw [IntKind.wrap_u64]; omega
      have i4 : IntKind.u64.wrap (y1 : Int) = (y1 : Int) := by rw [IntKind.wrap_u64]; omega
      obtain ⟨z, hz⟩ : ∃ z, z = 256 * y1 := ⟨_, rfl⟩
      have i5 : IntKind.u64.wrap (256 * (y1 : Int)) = (z : Int) := by rw [IntKind.wrap_u64]; omega
      have i6 : IntKind.u64.wrap ((y0 : Int) + (z : Int)) = (r : Int) := by rw [IntKind.wrap_u64]; omega
      have i7 : IntKind.i64.wrap (q : Int) = (q : Int) := by rw [IntKind.wrap_i64]; omega
      have i8 : IntKind.i64.wrap (q1 : Int) = (q1 : Int) := by rw [IntKind.wrap_i64]; omega
      have b1 : (0 : Int) ≤ (q : Int) := by omega
      have b2 : (q : Int) < 32 := by omega
      have b3 : (0 : Int) ≤ (q1 : Int) := by omega
      have b4 : (q1 : Int) < 32 := by omega
      have b5 : (0 : Int) ≤ (k : Int) := by omega
      have b6 : (k : Int) < 16 := by omega
      clear hd hp hre hy0 hy1 hq hq1 hz
      go_upto_region 5 with fail
      go_still_tail 17, (by kernel_rfl)
      change wpList _ _ _ _ _ wa.drew
      go_wp2_with fail
      refine ⟨⟨k + 1, by omega, by go_num, ?_, (hZa.far _ _ (by simp)), (hB.setCell (by simp) _).drew, by simpa using hS⟩, by simp [intOf]; omega⟩
      have h1 := hX.set k (.int .u64 (r : Nat))
      rw [fArr_set, HD.out] at h1
      exact h1
    · obtain rfl : k = 16 := by omega
      have hlt16 := HN.out
      rw [fArr_congr (digTo_all n 16 (by simpa using HN.out))] at hX
      have hZs : Z.size = 16 := by rw [hZ]; rfl
      have HZS := Lib.hid hZs
      have HZ := Lib.hid hZ
      have hHB := Lib.hid (show ∀ j, j < 16 → dig n j < 140737488355328 from fun j _ => by have := dig_lt n j; omega)
      have hfv : fval (dig n) 16 = n := by
        rw [fval_of_dig]; exact Nat.mod_eq_of_lt (by simpa using HN.out)
      have HFIT : Hid (∀ w, Calls Try.prog 60 #[.agg (fArr (dig n))] w fun e w' => e = .returned (.agg (fArr (dig (n % P25)))) ∧ Below w.heap.size w w') := by
        refine Lib.hid fun w => ?_
        have := fit_any (dig n) w hHB.out
        rwa [hfv] at this
      have HEQ : Hid (∀ w : World, (Op.equalIn 10000 34 (.agg (fArr (dig (n % P25)))) (.agg (fArr (dig n)))).run Try.prog w = .ok (n % P25 == n) w) :=
        Lib.hid (eql_fArr _ _ (Nat.lt_of_le_of_lt (Nat.mod_le _ _) hlt16) hlt16)
      obtain ⟨X, hXe⟩ : ∃ X, X = fArr (dig n) := ⟨_, rfl⟩
      obtain ⟨Y, hYe⟩ : ∃ Y, Y = fArr (dig (n % P25)) := ⟨_, rfl⟩
      obtain ⟨r, hre⟩ : ∃ r, r = (n % P25 == n) := ⟨_, rfl⟩
      rw [← hXe] at hX
      rw [← hXe, ← hYe] at HFIT HEQ
      rw [← hre] at HEQ
      have HYE := Lib.hid hYe
      have HRE := Lib.hid hre
      have HXS := Lib.hid (show X.size = 16 by rw [hXe]; exact fArr_size _)
      have HYS := Lib.hid (show Y.size = 16 by rw [hYe]; exact fArr_size _)
      have HX1 := Lib.hid (show X.all (·.oneCell') = true by rw [hXe]; exact fArr_one _)
      have HY1 := Lib.hid (show Y.all (·.oneCell') = true by rw [hYe]; exact fArr_one _)
      clear hfv hZ hZs hXe hYe hre hlt16
      have hz16 : (Array.replicate 16 (Value.int .u64 0)).size = 16 := rfl
      go_upto_region 6 with fail
      go_step
      refine wpList_load_box rfl 34 _ rfl hX (by rfl) Try.underlying34 rfl (by rw [HXS.out]; kernel_rfl) ?_
      refine wpList_alloc_box rfl 34 rfl (Array.replicate 16 (Value.int .u64 0)) (by intro w; simp [go_sem]; rfl) ?_
      refine wpList_store_box rfl 34 _ _ rfl (Box.new _ _ _) (by rfl) (by rfl) (by rw [HXS.out]; rfl) (by rw [HXS.out]; kernel_rfl) HX1.out ?_
      intro w3 hX3 hst
      have hZ3 := hst.box (hZa.alloc _) (by omega)
      have hX3' := hst.box (hX.alloc _) (by omega)
      have hB3 := hst.below w.heap.size w (by omega) (hB.alloc (by omega) _)
      have hS3 : wa.heap.size + 1 = w3.heap.size := by have := hst.size; simp at this; omega
      simp only [Act.put, List.setIfInBounds_toArray, List.set_cons_zero, List.set_cons_succ]
      clear hst hX hZa hB hz16
      have hO : w.heap.size + 2 ≤ wa.heap.size := hS
      clear hS
      generalize wa.heap.size = O at *
      go_upto_region 7 with fail
      go_step
      refine wpList_load_box rfl 34 _ rfl hX3 (by rfl) Try.underlying34 rfl (by rw [HXS.out]; kernel_rfl) ?_
      refine wpList_enter rfl 60 #[.agg X] (by simp [go_sem, Act.put]) _ _ (HFIT.out _) ?_
      intro w4 hb4
      have hZ4 := hZ3.below hb4 (by omega)
      have hX4 := hX3'.below hb4 (by omega)
      have hB4 := hB3.trans (hb4.mono (by omega))
      have hS4 := hb4.size
      clear hZ3 hX3 hX3' hB3 hb4
      refine wpList_alloc_box rfl 34 rfl (Array.replicate 16 (Value.int .u64 0)) (by intro w; simp [go_sem]; rfl) ?_
      refine wpList_store_box rfl 34 _ _ rfl (Box.new _ _ _) (by rfl) (by rfl) (by rw [HYS.out]; rfl) (by rw [HYS.out]; kernel_rfl) HY1.out ?_
      intro w5 hY5 hst
      have hZ5 := hst.box (hZ4.alloc _) (by omega)
      have hX5 := hst.box (hX4.alloc _) (by omega)
      have hB5 := hst.below w.heap.size w (by omega) (hB4.alloc (by omega) _)
      have hO5 : w.heap.size + 3 ≤ w4.heap.size := by omega
      simp only [Act.put, List.setIfInBounds_toArray, List.set_cons_zero, List.set_cons_succ]
      clear hst hZ4 hX4 hB4 hS4 hS3 hO
      generalize w4.heap.size = O5 at *
      go_upto_region 8 with fail
      have hS0 : ∀ k, k ≠ w.heap.size → w5.drew.heap[k]? = w5.heap[k]? := fun _ _ => rfl
      refine wp_region_held_drew (S := fun w' => ∀ k, k ≠ w.heap.size → w'.heap[k]? = w5.heap[k]?) rfl hS0 (fun _ => ?_)
      have LY : ∀ w' : World, (∀ k, k ≠ w.heap.size → w'.heap[k]? = w5.heap[k]?) → Box w' O5 34 Y := fun w' h => (h _ (by omega)).trans hY5
      have LX : ∀ w' : World, (∀ k, k ≠ w.heap.size → w'.heap[k]? = w5.heap[k]?) → Box w' (w.heap.size + 1) 34 X := fun w' h => (h _ (by omega)).trans hX5
      refine wpH_take 0 rfl (by kernel_rfl) (by kernel_rfl) (by kernel_rfl) rfl (fun _ _ _ _ h => h) (.agg Y) (fun w' h => run_load_box rfl (LY w' h) (by rfl) Try.underlying34 rfl (by rw [HYS.out]; kernel_rfl)) hS0 ?_
      refine wpH_take 1 rfl (by kernel_rfl) (by kernel_rfl) (by kernel_rfl) rfl (fun _ _ _ _ h => h) (.agg Y) (fun w' h => run_load_box rfl (LY w' h) (by rfl) Try.underlying34 rfl (by rw [HYS.out]; kernel_rfl)) hS0 ?_
      refine wpH_take 2 rfl (by kernel_rfl) (by kernel_rfl) (by kernel_rfl) rfl (fun _ _ _ _ h => h) (.agg X) (fun w' h => run_load_box rfl (LX w' h) (by rfl) Try.underlying34 rfl (by rw [HXS.out]; kernel_rfl)) hS0 ?_
      refine wpH_take 3 rfl (by kernel_rfl) (by kernel_rfl) (by kernel_rfl) rfl (fun _ _ _ _ h => h) (.bool r) (fun w' h => by simp [go_sem, HEQ.out, Act.put]) hS0 ?_
      refine wpH_store_box 4 rfl (by kernel_rfl) rfl 34 (.tmp 2) (.tmp 33) rfl hZ5.drew (by rfl) (by rfl) (by rw [HZS.out, HYS.out]) (by rw [HYS.out]; kernel_rfl) HY1.out ?_
      intro w6 hY6 hst
      refine ⟨fun k hk => (hst.other k hk).trans rfl, ?_⟩
      refine wpH_take 5 rfl (by kernel_rfl) (by kernel_rfl) (by kernel_rfl) rfl (fun _ _ _ _ h => h) (.bool r) (fun w' h => by simp [go_sem, Act.put]) (fun k hk => (hst.other k hk).trans rfl) ?_
      refine wpAnyH_done (by kernel_rfl) ?_ _
      have hB6 := hst.below _ _ (Nat.le_refl _) hB5.drew
      simp only [Act.put, List.setIfInBounds_toArray, List.set_cons_zero, List.set_cons_succ]
      clear LX LY hS0 hst hX5 hY5 hZ5 hB5
      go_wp2_with fail
      exact bodyPost_ret (v := .tuple #[.agg Y, .bool r]) (box_result2 (p := 2) (q := 3) rfl _ _ (by rfl) hY6 Try.underlying34 rfl (by rw [HYS.out]; kernel_rfl)) rfl ⟨by rw [HYE.out, HRE.out], hB6⟩
end Go.Proofs.Ytpkoniebbkkmjaa
namespace Go.Proofs.Ytpkoniebbkkmjaa
open Go.RowKit

set_option maxRecDepth 100000 in
set_option maxHeartbeats 1000000 in
theorem refBytes_any (n : Nat) (w : World) :
    Calls Try.prog 65 #[.agg (fArr (dig n))] w (RetSl (leBytes n 32) w) := by
  obtain ⟨C0, hC0⟩ : ∃ C0, C0 = fArr (dig n) := ⟨_, rfl⟩
  obtain ⟨i0, hi, hz0, hz1, hz2⟩ := info_parts infoU8
  rw [← hC0]
  have HC0 := Lib.hid hC0
  clear hC0
  have hdl := dig_lt n
  have hx0 := Box.new w 34 C0
  have hb0 : Below w.heap.size w (w.alloc (.cells C0 34)) := (Below.refl _ _).alloc (Nat.le_refl _) _
  have hs0 : (w.alloc (.cells C0 34)).heap.size = w.heap.size + 1 := by simp
  obtain ⟨W0, hW0⟩ : ∃ W0, W0 = w.alloc (.cells C0 34) := ⟨_, rfl⟩
  rw [← hW0] at hx0 hb0 hs0
  have hown0 : (W0.alloc (.cells #[] 5)).ownsRow (w.heap.size + 1) 5 1 (.slice (some ⟨w.heap.size + 1, 0, none⟩) 0 0) 0 (Lib.byteCells []) := by
    have := World.ownsRow_lit (base := w.heap.size + 1) (size := 1) (e := 5) W0 #[] 0 (by omega) (Nat.zero_le _) rfl
    rw [hs0] at this
    exact this
  have hB0 : Below (w.heap.size + 1) W0 (W0.alloc (.cells #[] 5)) := (Below.refl _ _).alloc (by omega) _
  have HW0 := Lib.hid hW0
  have HDL := Lib.hid hdl
  have HS0 := Lib.hid hs0
  clear hW0 hdl hs0
  go_enter Try.func65, Try.ntmps65
  go_wp2_with fail
  rw [← HW0.out]
  go_loopw [3, 4] (fun out i wr => ∃ k : Nat, k ≤ 16 ∧ i = .int .i64 k ∧ wr.ownsRow (w.heap.size + 1) 5 1 out (2 * k) (Lib.byteCells (leBytes n (2 * k))) ∧ Below (w.heap.size + 1) W0 wr) (fun _ i _ => 16 - (intOf i).toNat)
  case atStart => exact ⟨0, Nat.zero_le _, rfl, hown0, hB0⟩
  case round =>
    obtain ⟨wa, rfl⟩ : ∃ wa : World, wa = wr := ⟨_, rfl⟩
    obtain ⟨k, hk, rfl, hown, hB⟩ := hrel
    clear hown0 hB0
    by_cases hlt : k < 16
    · have HE := Lib.hid (leBytes_two n k)
      have hl := HDL.out k
      have hC := fArr_get (dig n) k hlt
      rw [← HC0.out] at hC
      obtain ⟨x, hx⟩ : ∃ x, x = dig n k := ⟨_, rfl⟩
      rw [← hx] at hl hC HE
      clear hx
      have e1 : (x : Int) % 256 = ((UInt8.ofNat (x % 256)).toNat : Int) := by simp
      have e2 : (x : Int) / 256 = ((UInt8.ofNat (x / 256)).toNat : Int) := by simp; omega
      have l1 := (UInt8.ofNat (x % 256)).toNat_lt
      have l2 := (UInt8.ofNat (x / 256)).toNat_lt
      obtain ⟨c, hc⟩ : ∃ c, c = UInt8.ofNat (x % 256) := ⟨_, rfl⟩
      obtain ⟨d, hd⟩ : ∃ d, d = UInt8.ofNat (x / 256) := ⟨_, rfl⟩
      rw [← hc] at e1 l1 HE
      rw [← hd] at e2 l2 HE
      have e3 : IntKind.u8.wrap (c.toNat : Int) = (c.toNat : Int) := by rw [IntKind.wrap_u8]; omega
      have e4 : IntKind.u8.wrap (d.toNat : Int) = (d.toNat : Int) := by rw [IntKind.wrap_u8]; omega
      have e5 : IntKind.u64.wrap (d.toNat : Int) = (d.toNat : Int) := by rw [IntKind.wrap_u64]; omega
      have b5 : (0 : Int) ≤ (k : Int) := by omega
      have b6 : (k : Int) < 16 := by omega
      have b7 : IntKind.i64.wrap (k : Int) = (k : Int) := by rw [IntKind.wrap_i64]; omega
      have e1' : (x : Int).tmod 256 = (c.toNat : Int) := by rw [Int.tmod_eq_emod_of_nonneg (by omega)]; exact e1
      have e2' : (x : Int).tdiv 256 = (d.toNat : Int) := by rw [Int.tdiv_eq_ediv_of_nonneg (by omega)]; exact e2
      clear hc hd
      have hcell : ∀ w', Below (w.heap.size + 1) W0 w' → w'.cell? ⟨w.heap.size, k, none⟩ = some (.int .u64 x) := fun w' h => (hx0.below h (by omega)).cell k hC
      go_upto_region 5 with fail
      refine wp_region_held_drew (S := fun w' => Below (w.heap.size + 1) W0 w') rfl hB.drew (fun _ => ?_)
      refine wpH_take 0 rfl (by kernel_rfl) (by kernel_rfl) (by kernel_rfl) rfl (fun _ _ _ _ h => h) (u3) (fun w' h => by simp [go_sem]) hB.drew ?_
      refine wpH_take 1 rfl (by kernel_rfl) (by kernel_rfl) (by kernel_rfl) rfl (fun _ _ _ _ h => h) (.int .i64 k) (fun w' h => by simp [go_sem, Act.put]) hB.drew ?_
      refine wpH_take 2 rfl (by kernel_rfl) (by kernel_rfl) (by kernel_rfl) rfl (fun _ _ _ _ h => h) (.pointer (some ⟨w.heap.size, k, none⟩)) (fun w' h => by simp [go_sem, Act.put, b5, b6]) hB.drew ?_
      refine wpH_take 3 rfl (by kernel_rfl) (by kernel_rfl) (by kernel_rfl) rfl (fun _ _ _ _ h => h) (.int .u64 x) (fun w' h => by simp [go_sem, Act.put, hcell w' h]) hB.drew ?_
      refine wpH_take 4 rfl (by kernel_rfl) (by kernel_rfl) (by kernel_rfl) rfl (fun _ _ _ _ h => h) (.int .u64 (c.toNat : Int)) (fun w' h => by simp [go_sem, Act.put, e1']) hB.drew ?_
      refine wpH_take 5 rfl (by kernel_rfl) (by kernel_rfl) (by kernel_rfl) rfl (fun _ _ _ _ h => h) (.int .u8 (c.toNat : Int)) (fun w' h => by simp [go_sem, Act.put, e3]) hB.drew ?_
      refine wpH_take 6 rfl (by kernel_rfl) (by kernel_rfl) (by kernel_rfl) rfl (fun _ _ _ _ h => h) (.int .i64 k) (fun w' h => by simp [go_sem, Act.put]) hB.drew ?_
      refine wpH_take 7 rfl (by kernel_rfl) (by kernel_rfl) (by kernel_rfl) rfl (fun _ _ _ _ h => h) (.pointer (some ⟨w.heap.size, k, none⟩)) (fun w' h => by simp [go_sem, Act.put, b5, b6]) hB.drew ?_
      refine wpH_take 8 rfl (by kernel_rfl) (by kernel_rfl) (by kernel_rfl) rfl (fun _ _ _ _ h => h) (.int .u64 x) (fun w' h => by simp [go_sem, Act.put, hcell w' h]) hB.drew ?_
      refine wpH_take 9 rfl (by kernel_rfl) (by kernel_rfl) (by kernel_rfl) rfl (fun _ _ _ _ h => h) (.int .u64 (d.toNat : Int)) (fun w' h => by simp [go_sem, Act.put, e2', e5]) hB.drew ?_
      refine wpH_take 10 rfl (by kernel_rfl) (by kernel_rfl) (by kernel_rfl) rfl (fun _ _ _ _ h => h) (.int .u8 (d.toNat : Int)) (fun w' h => by simp [go_sem, Act.put, e4]) hB.drew ?_
      have hBn : Below (w.heap.size + 1) W0 (wa.drew.alloc (.cells #[.int .u8 (c.toNat : Int), .int .u8 (d.toNat : Int)] 5)) := hB.drew.alloc (by have := hB.size; have := HS0.out; simp; omega) _
      refine wpH_run 11 rfl (by kernel_rfl) rfl (.slice (some ⟨wa.heap.size, 0, none⟩) 2 2) (wa.drew.alloc (.cells #[.int .u8 (c.toNat : Int), .int .u8 (d.toNat : Int)] 5)) (by simp [go_sem, Act.put]) hBn ?_
      have hct := cellTwo wa.drew (.int .u8 (c.toNat : Int)) (.int .u8 (d.toNat : Int)) wa.heap.size rfl
      refine wpH_append_sl 12 rfl (by kernel_rfl) rfl (.tmp 10) (.tmp 21) 22 rfl (w.heap.size + 1) 5 i0 Try.underlying22 hi hz0 hz1 hz2 u3 (2 * k) (leBytes n (2 * k)) (by simp [go_sem, Act.put]) (hown.drew.alloc _) (some ⟨wa.heap.size, 0, none⟩) 2 2 [c, d] (by simp [go_sem, Act.put]) (slTwo _ _ _ _ hct.1 hct.2) (by omega) (by have := hB.size; have := HS0.out; simp; omega) ?_
      intro v1 w1 hown1 hg1
      have hB1 : Below (w.heap.size + 1) W0 w1 := hBn.grown hg1 (by have := hB.size; have := HS0.out; simp; omega) (fun j hj => (hown.lt j hj).1)
      refine ⟨hB1, ?_⟩
      refine wpH_take 13 rfl (by kernel_rfl) (by kernel_rfl) (by kernel_rfl) rfl (fun _ _ _ _ h => h) v1 (fun w' h => by simp [go_sem, Act.put]) hB1 ?_
      refine wpAnyH_done (by kernel_rfl) ?_ _
      simp only [Act.put, List.setIfInBounds_toArray, List.set_cons_zero, List.set_cons_succ]
      rw [← HE.out] at hown1
      clear hBn hct hg1 hown hcell hB
      go_wp2_with fail
      refine ⟨⟨k + 1, by omega, by go_num, hown1, hB1⟩, by simp [intOf]; omega⟩
    · obtain rfl : k = 16 := by omega
      obtain ⟨a1, c1, rfl, hS⟩ := Sl.ofOwns hown
      have hBw : Below w.heap.size w wa := hb0.trans (hB.mono (by omega))
      clear hx0 hb0
      go_wp2_with fail
      go_ret
      exact ⟨a1, c1, by rw [leBytes_len]; rfl, by rw [leBytes_len]; exact hS, hBw⟩
end Go.Proofs.Ytpkoniebbkkmjaa
namespace Go.Proofs.Ytpkoniebbkkmjaa
open Go.RowKit

theorem bytes255_inj (n m : Nat) (hn : n < 2 ^ 255) (hm : m < 2 ^ 255) (k : Nat) (hk : k = 32) : decide (∀ i, i < k → byteAt n 255 i = byteAt m 255 i) = (n == m) := by
  subst hk
  rw [Bool.eq_iff_iff]
  simp only [decide_eq_true_eq, beq_iff_eq]
  constructor
  · intro h
    have := bytes_inj n m 32 fun j hj => by have := h j hj; rwa [byteAt_end _ _ hn, byteAt_end _ _ hm] at this
    rwa [Nat.mod_eq_of_lt (by omega), Nat.mod_eq_of_lt (by omega)] at this
  · rintro rfl _ _; rfl

theorem eql_bArr (n m : Nat) (hn : n < 2 ^ 255) (hm : m < 2 ^ 255) (w : World) : (Op.equalIn 10000 39 (.agg (bArr n 255)) (.agg (bArr m 255))).run Try.prog w = .ok (n == m) w := by
  rw [equal_arr w 39 5 32 9999 _ _ _ _ (by kernel_rfl) (fun a b => run_equalIn_int w 9998 _ _ .u8 a b (by kernel_rfl)) (by simp [go_sem]) (by simp [go_sem]) (fun i hi => bArr_get _ 255 i hi) (fun i hi => bArr_get _ 255 i hi), bytes255_inj n m hn hm _ rfl]

set_option maxRecDepth 100000 in
set_option maxHeartbeats 400000 in
theorem same_any (x y : L5) (w : World) (h : x.lt 9223372036854775808) (h' : y.lt 9223372036854775808) :
    Calls Try.prog 36 #[x.v, y.v] w fun e w' => e = .returned (.bool (x.val % P25 == y.val % P25)) ∧ Below w.heap.size w w' := by
  have heql := eql_bArr _ _ (red_lt x) (red_lt y)
  obtain ⟨C, hC⟩ : ∃ C, C = bArr (x.val % P25) 255 := ⟨_, rfl⟩
  obtain ⟨D, hD⟩ : ∃ D, D = bArr (y.val % P25) 255 := ⟨_, rfl⟩
  obtain ⟨r, hr⟩ : ∃ r, r = (x.val % P25 == y.val % P25) := ⟨_, rfl⟩
  rw [← hC, ← hD, ← hr] at heql
  rw [← hr]
  have HX : ∀ w, Calls Try.prog 41 #[x.v] w fun e w' => e = .returned (.agg C) ∧ Below w.heap.size w w' := by rw [hC]; exact fun w => bytes_any x w h
  have HY : ∀ w, Calls Try.prog 41 #[y.v] w fun e w' => e = .returned (.agg D) ∧ Below w.heap.size w w' := by rw [hD]; exact fun w => bytes_any y w h'
  obtain ⟨x0, x1, x2, x3, x4⟩ := x
  obtain ⟨y0, y1, y2, y3, y4⟩ := y
  have HX' := Lib.hid HX
  have HY' := Lib.hid HY
  have HE := Lib.hid heql
  clear HX HY heql hC hD hr h h'
  go_enter Try.func36, Try.ntmps36
  go_wp2_with fail
  have g0 := heap_alloc2_old w (.cells #[.int .u64 x0, .int .u64 x1, .int .u64 x2, .int .u64 x3, .int .u64 x4] 27) (.cells #[.int .u64 y0, .int .u64 y1, .int .u64 y2, .int .u64 y3, .int .u64 y4] 27)
  have g1 := heap_alloc2_new w (.cells #[.int .u64 x0, .int .u64 x1, .int .u64 x2, .int .u64 x3, .int .u64 x4] 27) (.cells #[.int .u64 y0, .int .u64 y1, .int .u64 y2, .int .u64 y3, .int .u64 y4] 27)
  have g2 : Below w.heap.size w ((w.alloc (.cells #[.int .u64 x0, .int .u64 x1, .int .u64 x2, .int .u64 x3, .int .u64 x4] 27)).alloc (.cells #[.int .u64 y0, .int .u64 y1, .int .u64 y2, .int .u64 y3, .int .u64 y4] 27)) :=
    ((Below.refl w.heap.size w).alloc (Nat.le_refl _) _).alloc (by simp) _
  have g3 : w.heap.size + 2 ≤ ((w.alloc (.cells #[.int .u64 x0, .int .u64 x1, .int .u64 x2, .int .u64 x3, .int .u64 x4] 27)).alloc (.cells #[.int .u64 y0, .int .u64 y1, .int .u64 y2, .int .u64 y3, .int .u64 y4] 27)).heap.size := by simp
  generalize ((w.alloc (.cells #[.int .u64 x0, .int .u64 x1, .int .u64 x2, .int .u64 x3, .int .u64 x4] 27)).alloc (.cells #[.int .u64 y0, .int .u64 y1, .int .u64 y2, .int .u64 y3, .int .u64 y4] 27)) = W at *
  refine wp_region_made W.heap.size W rfl (by kernel_rfl) (Below.refl _ _) ?_
  refine wpQ_load_row rfl 27 _ rfl _ (by rfl) _ _ _ _ g0 (by omega) Try.underlying27 rfl (by kernel_rfl) ?_
  refine wpQ_call rfl 41 _ (fun w => by simp [go_sem, Act.put]) _ (Nat.le_refl _) HX'.out ?_
  refine wpQ_load_row rfl 27 _ rfl _ (by rfl) _ _ _ _ g1 (by omega) Try.underlying27 rfl (by kernel_rfl) ?_
  refine wpQ_call rfl 41 _ (fun w => by simp [go_sem, Act.put]) _ (Nat.le_refl _) HY'.out ?_
  refine wpQ_run rfl (.bool r) (fun w _ => by simp [go_sem, HE.out, Act.put]) ?_
  refine wpQ_move rfl _ (.inl rfl) ?_
  intro w' hb
  simp only [Act.put, List.setIfInBounds_toArray, List.set_cons_zero, List.set_cons_succ]
  have g4 := g2.trans (hb.mono (by omega))
  clear g0 g1 g2 g3 hb HX' HY' HE
  go_wp2_with fail
  go_ret
  exact ⟨rfl, g4⟩
end Go.Proofs.Ytpkoniebbkkmjaa
namespace Go.Proofs.Ytpkoniebbkkmjaa
open Go.RowKit

/-- the cells of five limbs that hold the lowest i bits of n -/
def lArr (n i : Nat) : Array Value := ((List.range 5).map fun j => Value.int .u64 (chunk 51 n i j : Nat)).toArray
theorem lArr_lit (n i : Nat) : lArr n i = #[.int .u64 (chunk 51 n i 0 : Nat), .int .u64 (chunk 51 n i 1 : Nat), .int .u64 (chunk 51 n i 2 : Nat), .int .u64 (chunk 51 n i 3 : Nat), .int .u64 (chunk 51 n i 4 : Nat)] := rfl
theorem lArr_get (n i l : Nat) (h : l < 5) : (lArr n i)[l]? = some (.int .u64 (chunk 51 n i l : Nat)) := by
  simp [lArr, List.getElem?_map, List.getElem?_range h]
theorem lArr_size (n i : Nat) : (lArr n i).size = 5 := by simp [lArr]
theorem lArr_zero (n : Nat) : lArr n 0 = #[.int .u64 0, .int .u64 0, .int .u64 0, .int .u64 0, .int .u64 0] := by
  rw [lArr_lit]; simp only [chunk_zero]; rfl
theorem lArr_set (n i : Nat) : (lArr n i).setIfInBounds (i / 51) (.int .u64 (chunk 51 n (i + 1) (i / 51) : Nat)) = lArr n (i + 1) := by
  apply Array.ext
  · simp [lArr]
  · intro j h1 h2
    simp only [lArr, List.size_toArray, List.length_map, List.length_range] at h2
    rw [Array.getElem_setIfInBounds (by simpa [lArr] using h2)]
    by_cases hj : i / 51 = j
    · subst hj; simp [lArr]
    · rw [if_neg hj]; simp [lArr, chunk_other 51 n i j (by omega) (fun e => hj e.symm)]

theorem lArr_v (n : Nat) : Value.agg (lArr n 255) = (L5.of n).v := by
  rw [lArr_lit, of_chunks]

theorem eql_get (l : List UInt8) (hl : l.length = 32) (w : World) : (Op.equalIn 10000 39 (.agg (bArr ((L5.of (leNat l)).val % P25) 255)) (.agg (lCells l).toArray)).run Try.prog w = .ok (decide (leNat l < P25)) w := by
  rw [of_val, equal_arr w 39 5 32 9999 _ (fun i => (l.getD i 0).toNat) _ _ (by kernel_rfl) (fun a b => run_equalIn_int w 9998 _ _ .u8 a b (by kernel_rfl)) (by simp [go_sem]) (by simp [go_sem]) (fun i hi => bArr_get _ 255 i hi) (fun i hi => by simp [lCells, List.getD_eq_getElem?_getD, show i < l.length by omega]), get_eq l hl _ rfl]

def L5.zero : L5 := ⟨0, 0, 0, 0, 0⟩

set_option maxHeartbeats 400000 in
theorem get_short (a : Option Addr) (len cap : Nat) (w : World) (h : len < 32) :
    Calls Try.prog 28 #[.slice a len cap] w fun e w' => e = .returned (.tuple #[L5.zero.v, .int .i64 2]) ∧ Below w.heap.size w w' := by
  go_enter Try.func28, Try.ntmps28
  go_wp2_with fail
  exact bodyPost_ret (v := .tuple #[.agg #[.int .u64 0, .int .u64 0, .int .u64 0, .int .u64 0, .int .u64 0], .int .i64 2]) (by simp [results, Try.results28, go_sem]) rfl ⟨rfl, by
    repeat (first | exact (Below.refl _ _) | refine Below.alloc ?_ (by simp) _ | refine Below.setCell ?_ (by simp) _)⟩

set_option maxHeartbeats 400000 in
theorem get_long (a : Option Addr) (len cap : Nat) (w : World) (h : 32 < len) :
    Calls Try.prog 28 #[.slice a len cap] w fun e w' => e = .returned (.tuple #[L5.zero.v, .int .i64 4]) ∧ Below w.heap.size w w' := by
  go_enter Try.func28, Try.ntmps28
  go_wp2_with fail
  exact bodyPost_ret (v := .tuple #[.agg #[.int .u64 0, .int .u64 0, .int .u64 0, .int .u64 0, .int .u64 0], .int .i64 4]) (by simp [results, Try.results28, go_sem]) rfl ⟨rfl, by
    repeat (first | exact (Below.refl _ _) | refine Below.alloc ?_ (by simp) _ | refine Below.setCell ?_ (by simp) _)⟩

set_option maxRecDepth 100000 in
set_option maxHeartbeats 1000000 in
theorem get_any (l : List UInt8) (a : Option Addr) (cap : Nat) (w : World) (hs : Sl w a 32 cap l) :
    Calls Try.prog 28 #[.slice a 32 cap] w fun e w' => e = .returned (.tuple #[(bif decide (leNat l < P25) then L5.of (leNat l) else L5.zero).v, .int .i64 (bif decide (leNat l < P25) then 0 else 6)]) ∧ Below w.heap.size w w' := by
  obtain ⟨b, o, rfl, hcell⟩ : ∃ b o, a = some ⟨b, o, none⟩ ∧ ∀ i, i < 32 → w.cell? ⟨b, o + i, none⟩ = some (.int .u8 ((l.getD i 0).toNat : Int)) := by
    obtain ⟨h1, h2, h3, h5, h4⟩ := hs
    rcases h4 with h4 | h4
    · omega
    · exact h4
  have hlen : l.length = 32 := hs.1.symm
  have hcap : 32 ≤ cap := hs.2.1
  have hb : b < w.heap.size := cell_lt (hcell 0 (by omega))
  obtain ⟨n, hn⟩ : ∃ n, n = leNat l := ⟨_, rfl⟩
  have HN := Lib.hid hn
  rw [← hn]
  have HC := Lib.hid hcell
  have HL := Lib.hid hlen
  clear hn hcell hs hlen
  obtain ⟨r, hr⟩ : ∃ r, r = decide (n < P25) := ⟨_, rfl⟩
  rw [← hr]
  have HR := Lib.hid hr
  clear hr
  go_enter Try.func28, Try.ntmps28
  go_wp2_with fail
  have g0 := heap_alloc2_old w (.cells #[.int .u64 0, .int .u64 0, .int .u64 0, .int .u64 0, .int .u64 0] 27) (.cells #[.int .u64 0, .int .u64 0, .int .u64 0, .int .u64 0, .int .u64 0] 27)
  have g1 := heap_alloc2_new w (.cells #[.int .u64 0, .int .u64 0, .int .u64 0, .int .u64 0, .int .u64 0] 27) (.cells #[.int .u64 0, .int .u64 0, .int .u64 0, .int .u64 0, .int .u64 0] 27)
  have g2 : Below w.heap.size w ((w.alloc (.cells #[.int .u64 0, .int .u64 0, .int .u64 0, .int .u64 0, .int .u64 0] 27)).alloc (.cells #[.int .u64 0, .int .u64 0, .int .u64 0, .int .u64 0, .int .u64 0] 27)) :=
    ((Below.refl w.heap.size w).alloc (Nat.le_refl _) _).alloc (by simp) _
  have g3 : w.heap.size + 2 ≤ ((w.alloc (.cells #[.int .u64 0, .int .u64 0, .int .u64 0, .int .u64 0, .int .u64 0] 27)).alloc (.cells #[.int .u64 0, .int .u64 0, .int .u64 0, .int .u64 0, .int .u64 0] 27)).heap.size := by simp
  generalize ((w.alloc (.cells #[.int .u64 0, .int .u64 0, .int .u64 0, .int .u64 0, .int .u64 0] 27)).alloc (.cells #[.int .u64 0, .int .u64 0, .int .u64 0, .int .u64 0, .int .u64 0] 27)) = W at *
  rw [← lArr_zero n] at g1
  go_loopw [16] (fun i wr => ∃ k : Nat, k ≤ 255 ∧ i = .int .i64 k ∧ Below w.heap.size w wr ∧ w.heap.size + 2 ≤ wr.heap.size ∧ wr.heap[w.heap.size]? = some (.cells #[.int .u64 0, .int .u64 0, .int .u64 0, .int .u64 0, .int .u64 0] 27 (0, 0)) ∧ wr.heap[w.heap.size + 1]? = some (.cells (lArr n k) 27 (0, 0))) (fun i _ => 255 - (intOf i).toNat)
  case atStart => exact ⟨0, by omega, rfl, g2, g3, g0, g1⟩
  case round =>
    obtain ⟨wa, rfl⟩ : ∃ wa : World, wa = wr := ⟨_, rfl⟩
    obtain ⟨k, hk, rfl, hB, hz, hR, hX⟩ := hrel
    clear g0 g1 g2 g3
    by_cases hlt : k < 255
    · obtain ⟨q, hq⟩ : ∃ q, q = k / 8 := ⟨_, rfl⟩
      obtain ⟨r, hr⟩ : ∃ r, r = k % 8 := ⟨_, rfl⟩
      obtain ⟨m, hm⟩ : ∃ m, m = k / 51 := ⟨_, rfl⟩
      obtain ⟨s, hs⟩ : ∃ s, s = k % 51 := ⟨_, rfl⟩
      have i1 : (k : Int).tdiv 8 = (q : Int) := by rw [Int.tdiv_eq_ediv_of_nonneg (by omega)]; omega
      have i2 : (k : Int).tmod 8 = (r : Int) := by rw [Int.tmod_eq_emod_of_nonneg (by omega)]; omega
      have i3 : (k : Int).tdiv 51 = (m : Int) := by rw [Int.tdiv_eq_ediv_of_nonneg (by omega)]; omega
      have i4 : (k : Int).tmod 51 = (s : Int) := by rw [Int.tmod_eq_emod_of_nonneg (by omega)]; omega
      have hq31 : q < 32 := by omega
      have hl5 : m < 5 := by omega
      have hr8 : r < 8 := by omega
      have hs51 : s < 51 := by omega
      have gx := (cell_of_row wa _ m _ _ _ hX).trans (lArr_get n k m hl5)
      have fx := frozen_of_row wa _ m _ _ hX
      have gb : wa.cell? ⟨b, o + q, none⟩ = some (.int .u8 ((l.getD q 0).toNat : Int)) := (hB.cell (p := ⟨b, o + q, none⟩) hb).trans (HC.out q hq31)
      have hy := (l.getD q 0).toNat_lt
      have hbit := leNat_bit l k
      rw [← hq, ← hr, ← HN.out] at hbit
      obtain ⟨y, hye⟩ : ∃ y, y = (l.getD q 0).toNat := ⟨_, rfl⟩
      rw [← hye] at gb hy hbit
      have k1 : IntKind.i64.wrap (q : Int) = (q : Int) := by rw [IntKind.wrap_i64]; omega
      have k2 : IntKind.i64.wrap (r : Int) = (r : Int) := by rw [IntKind.wrap_i64]; omega
      have k3 : IntKind.i64.wrap (m : Int) = (m : Int) := by rw [IntKind.wrap_i64]; omega
      have k4 : IntKind.i64.wrap (s : Int) = (s : Int) := by rw [IntKind.wrap_i64]; omega
      have b1 : (0 : Int) ≤ (q : Int) := by omega
      have b2 : (q : Int) < 32 := by omega
      have b3 : (0 : Int) ≤ (m : Int) := by omega
      have b4 : (m : Int) < 5 := by omega
      have b5 : (0 : Int) ≤ (s : Int) := by omega
      have b6 : (0 : Int) ≤ (r : Int) := by omega
      obtain ⟨z, hz'⟩ : ∃ z, z = bitAt n k := ⟨_, rfl⟩
      have hzz : z < 2 := by rw [hz']; exact bitAt_lt _ _
      have hvs : y / 2 ^ r < 256 := Nat.lt_of_le_of_lt (Nat.div_le_self _ _) hy
      have m1 : bits BinOp.and IntKind.u8 ((y : Int) / 2 ^ r) 1 = (z : Int) := by
        rw [show ((y : Int) / 2 ^ r) = ((y / 2 ^ r : Nat) : Int) by simp, show (1 : Int) = ((1 : Nat) : Int) from rfl, u8_and_nat _ _ (by omega) (by omega), Nat.and_one_is_mod, hbit, hz']
      have m2 : IntKind.u64.wrap (z : Int) = (z : Int) := by rw [IntKind.wrap_u64]; omega
      obtain ⟨t, ht⟩ : ∃ t, t = z * 2 ^ s := ⟨_, rfl⟩
      have ht51 : t < 2251799813685248 := by
        have h3 : (2 : Nat) ^ s ≤ 2 ^ 50 := Nat.pow_le_pow_right (by omega) (by omega)
        have h4 : z * 2 ^ s ≤ 1 * 2 ^ 50 := Nat.mul_le_mul (by omega) h3
        omega
      have m3 : IntKind.u64.wrap ((z : Int) * 2 ^ s) = (t : Int) := by
        rw [show ((z : Int) * 2 ^ s) = (t : Int) by rw [ht]; simp, IntKind.wrap_u64]; omega
      have hch : chunk 51 n k m < 2251799813685248 := chunk_lt 51 n k m
      have m4 : bits BinOp.or IntKind.u64 (chunk 51 n k m : Int) (t : Int) = (chunk 51 n (k + 1) m : Int) := by
        rw [u64_or_nat _ _ (by omega) (by omega), hm, chunk_here _ _ _ (by omega), ← hm, ← hs, ht, hz']
      clear hvs hz' hy ht hye
      have HK := Lib.hid (show m = k / 51 from hm)
      clear hq hr hm hs
      have HBIT := Lib.hid hbit
      clear hbit
      go_upto_region 9 with fail
      go_still_tail 21, (by kernel_rfl)
      change wpList _ _ _ _ _ wa.drew
      go_wp2_with fail
      refine ⟨⟨k + 1, by omega, by go_num, (hB.setCell (by simp) _).drew, by simpa using hz, ?_, ?_⟩, by simp [intOf]; omega⟩
      · exact (heap_setCell_other wa _ _ _ (by simp)).trans hR
      · rw [← lArr_set n k, ← HK.out]
        exact heap_setCell_same wa _ _ _ _ _ hX
    · obtain rfl : k = 255 := by omega
      have HB : ∀ w, Calls Try.prog 41 #[.agg (lArr n 255)] w fun e w' => e = .returned (.agg (bArr ((L5.of n).val % P25) 255)) ∧ Below w.heap.size w w' := by
        have h3 : (L5.of n).lt 9223372036854775808 := by
          obtain ⟨h1, h2, h3, h4, h5⟩ := of_lt n
          exact ⟨by omega, by omega, by omega, by omega, by omega⟩
        rw [lArr_v]; exact fun w => bytes_any (L5.of n) w h3
      have HE : ∀ w, (Op.equalIn 10000 39 (.agg (bArr ((L5.of n).val % P25) 255)) (.agg (lCells l).toArray)).run Try.prog w = .ok r w := by
        rw [HR.out, HN.out]; exact eql_get l HL.out
      have hbw : b < wa.heap.size := by omega
      have hrg : wa.rangeAt b o (lCells l) := fun j v hv => by
        have hj : j < 32 := by
          rcases Nat.lt_or_ge j 32 with h' | h'
          · exact h'
          · simp [lCells, List.getElem?_eq_none (show l.length ≤ j by have := HL.out; omega)] at hv
        rw [(hB.cell (p := ⟨b, o + j, none⟩) hb), HC.out j hj]
        have := HL.out
        simp [lCells, show j < l.length by omega] at hv
        rw [← hv]
        simp [List.getD_eq_getElem?_getD, show j < l.length by omega]
      have hlc : (lCells l).length = 32 := by simp [lCells, HL.out]
      generalize bArr ((L5.of n).val % P25) 255 = C at HB HE
      have HB' := Lib.hid HB
      have HE' := Lib.hid HE
      have HG := Lib.hid hrg
      have HLC := Lib.hid hlc
      clear HB HE hrg hlc
      generalize lCells l = D at HE' HG HLC
      go_upto_region 11 with fail
      refine wp_region_made wa.heap.size wa rfl (by kernel_rfl) (Below.refl _ _) ?_
      refine wpQ_load_row rfl 27 _ rfl _ (by rfl) _ _ _ _ hX (by omega) Try.underlying27 rfl (by kernel_rfl) ?_
      refine wpQ_call rfl 41 _ (fun w => by simp [go_sem, Act.put]) _ (Nat.le_refl _) HB'.out ?_
      refine wpQ_move rfl _ (.inr rfl) ?_
      refine wpQ_run rfl (.pointer (some ⟨b, o, none⟩)) (fun w _ => by simp [go_sem, Act.put, Instr.arrayAt]) ?_
      refine wpQ_load_mid rfl 39 _ rfl b o (by rfl) D _ HG.out hbw Try.underlying39 rfl (by rw [HLC.out]; kernel_rfl) ?_
      refine wpQ_run rfl (.bool (!r)) (fun w _ => by simp [go_sem, HE'.out, Act.put]) ?_
      intro w' hb1
      simp only [Act.put, List.setIfInBounds_toArray, List.set_cons_zero, List.set_cons_succ]
      have hR' := (hb1.block _ (by omega)).trans hR
      have hX' := (hb1.block _ (by omega)).trans hX
      have hB' := hB.trans (hb1.mono (by omega))
      clear HB' HE' HG HLC hR hX hB
      have hlv : lArr n 255 = #[.int .u64 (L5.of n).a, .int .u64 (L5.of n).b, .int .u64 (L5.of n).c, .int .u64 (L5.of n).d, .int .u64 (L5.of n).e] := by rw [lArr_lit, of_chunks]
      rw [hlv] at hX'
      obtain ⟨X, hXe⟩ : ∃ X, X = L5.of n := ⟨_, rfl⟩
      rw [← hXe] at hX'
      have HXE := Lib.hid hXe
      clear hXe hlv
      obtain ⟨xa, xb, xc, xd, xe⟩ := X
      dsimp only at hX'
      have ga0 := cell_of_row w' _ 0 _ _ _ hX'
      have ga1 := cell_of_row w' _ 1 _ _ _ hX'
      have ga2 := cell_of_row w' _ 2 _ _ _ hX'
      have ga3 := cell_of_row w' _ 3 _ _ _ hX'
      have ga4 := cell_of_row w' _ 4 _ _ _ hX'
      have gb0 := cell_of_row w' _ 0 _ _ _ hR'
      have gb1 := cell_of_row w' _ 1 _ _ _ hR'
      have gb2 := cell_of_row w' _ 2 _ _ _ hR'
      have gb3 := cell_of_row w' _ 3 _ _ _ hR'
      have gb4 := cell_of_row w' _ 4 _ _ _ hR'
      have fa0 := frozen_of_row w' _ 0 _ _ hR'
      have fa1 := frozen_of_row w' _ 1 _ _ hR'
      have fa2 := frozen_of_row w' _ 2 _ _ hR'
      have fa3 := frozen_of_row w' _ 3 _ _ hR'
      have fa4 := frozen_of_row w' _ 4 _ _ hR'
      simp only [List.getElem?_toArray, List.getElem?_cons_zero, List.getElem?_cons_succ] at ga0 ga1 ga2 ga3 ga4 gb0 gb1 gb2 gb3 gb4
      clear hX' hR'
      cases r
      · go_wp2_with fail
        exact bodyPost_ret (v := .tuple #[.agg #[.int .u64 0, .int .u64 0, .int .u64 0, .int .u64 0, .int .u64 0], .int .i64 6]) (by simp [results, Try.results28, go_sem, gb0, gb1, gb2, gb3, gb4]) rfl ⟨rfl, by
          repeat (first | exact hB' | refine Below.setCell ?_ (by simp) _)⟩
      · go_wp2_with fail
        exact bodyPost_ret (v := .tuple #[.agg #[.int .u64 xa, .int .u64 xb, .int .u64 xc, .int .u64 xd, .int .u64 xe], .int .i64 0]) (by simp [results, Try.results28, go_sem, gb0, gb1, gb2, gb3, gb4]) rfl ⟨by
          rw [show (bif true then L5.of n else L5.zero) = L5.of n from rfl, ← HXE.out]; rfl, by
          repeat (first | exact hB' | refine Below.setCell ?_ (by simp) _)⟩
end Go.Proofs.Ytpkoniebbkkmjaa
namespace Go.Proofs.Ytpkoniebbkkmjaa
open Go.RowKit

theorem box_sl {w : World} {g v : Nat} (h : Box w g 39 (bArr v 255)) (hv : v < 2 ^ 255) : Sl w (some ⟨g, 0, none⟩) 32 32 (leBytes v 32) := by
  refine ⟨by rw [leBytes_len], Nat.le_refl _, by unfold maxLen; omega, (fun h => by cases h), .inr ⟨g, 0, rfl, fun j hj => ?_⟩⟩
  rw [Nat.zero_add, h.cell j (bArr_get v 255 j hj), byteAt_end v j hv]
  simp [leBytes, List.getD_eq_getElem?_getD, hj]

theorem leBytes_get (n k j : Nat) (h : j < k) : ((leBytes n k).getD j 0).toNat = n / 256 ^ j % 256 := by
  simp [leBytes, List.getD_eq_getElem?_getD, h]
theorem leBytes_inj (n m k : Nat) (hn : n < 256 ^ k) (hm : m < 256 ^ k) : leBytes n k = leBytes m k ↔ n = m := by
  constructor
  · intro h
    have := bytes_inj n m k fun j hj => by rw [← leBytes_get n k j hj, h, leBytes_get m k j hj]
    rwa [Nat.mod_eq_of_lt hn, Nat.mod_eq_of_lt hm] at this
  · rintro rfl; rfl

theorem str_beq (n m : Nat) (hn : n < 256 ^ 32) (hm : m < 256 ^ 32) : (leBytes n 32 == leBytes m 32) = (n == m) := by
  rw [Bool.eq_iff_iff]
  simp only [beq_iff_eq]
  exact leBytes_inj n m 32 hn hm
theorem bArr_one (n i : Nat) : (bArr n i).all (·.oneCell') = true := all_oneCell_toArray (fun v hv => by simp at hv; obtain ⟨j, _, rfl⟩ := hv; rfl)

end Go.Proofs.Ytpkoniebbkkmjaa
namespace Go.Proofs.Ytpkoniebbkkmjaa
open Go.RowKit

/-- the cells of five limbs -/
def gArr (f : Nat → Nat) : Array Value := ((List.range 5).map fun j => Value.int .u64 (f j : Nat)).toArray
theorem gArr_get (f : Nat → Nat) (j : Nat) (h : j < 5) : (gArr f)[j]? = some (.int .u64 (f j : Nat)) := by
  simp [gArr, List.getElem?_map, List.getElem?_range h]
theorem gArr_size (f : Nat → Nat) : (gArr f).size = 5 := by simp [gArr]
theorem gArr_set (f : Nat → Nat) (i v : Nat) : (gArr f).setIfInBounds i (.int .u64 (v : Nat)) = gArr (upd f i v) := by
  apply Array.ext
  · simp [gArr]
  · intro j h1 h2
    simp only [gArr, List.size_toArray, List.length_map, List.length_range] at h2
    rw [Array.getElem_setIfInBounds (by simpa [gArr] using h2)]
    by_cases hj : i = j
    · subst hj; simp [gArr, upd]
    · rw [if_neg hj]; simp [gArr, upd, show ¬ j = i from fun e => hj e.symm]
theorem gArr_one (f : Nat → Nat) : (gArr f).all (·.oneCell') = true := all_oneCell_toArray (fun v hv => by simp at hv; obtain ⟨j, _, rfl⟩ := hv; rfl)
theorem gArr_at (x : L5) : gArr x.at = #[.int .u64 x.a, .int .u64 x.b, .int .u64 x.c, .int .u64 x.d, .int .u64 x.e] := rfl
def L5.fn (f : Nat → Nat) : L5 := ⟨f 0, f 1, f 2, f 3, f 4⟩
theorem gArr_fn (f : Nat → Nat) : Value.agg (gArr f) = (L5.fn f).v := rfl
theorem at_lt {x : L5} {m : Nat} (h : x.lt m) : ∀ j, j < 5 → x.at j < m := fun j hj => by
  obtain ⟨h1, h2, h3, h4, h5⟩ := h
  match j, hj with
  | 0, _ => exact h1
  | 1, _ => exact h2
  | 2, _ => exact h3
  | 3, _ => exact h4
  | 4, _ => exact h5

/-- f up to limb k, x from there on -/
def mix (f g : Nat → Nat) (k j : Nat) : Nat := if j < k then f j else g j
theorem mix_zero (f g : Nat → Nat) : mix f g 0 = g := by funext j; simp [mix]
theorem mix_here (f g : Nat → Nat) (k : Nat) : mix f g k k = g k := by simp [mix]
theorem mix_step (f g : Nat → Nat) (k : Nat) : upd (mix f g k) k (f k) = mix f g (k + 1) := by
  funext j; unfold upd mix
  by_cases h : j = k
  · subst h; simp
  · by_cases h2 : j < k
    · rw [if_neg h, if_pos h2, if_pos (by omega)]
    · rw [if_neg h, if_neg h2, if_neg (by omega)]
theorem mix_fn (f g : Nat → Nat) : L5.fn (mix f g 5) = L5.fn f := rfl

/-- limb k of four times p -/
def p4 (k : Nat) : Nat := if k = 0 then 9007199254740916 else 9007199254740988
def subF (x y : L5) (k : Nat) : Nat := x.at k + (p4 k - y.at k)
def L5.sub (x y : L5) : L5 := (L5.fn (subF x y.cry)).cry
def addF (x y : L5) (k : Nat) : Nat := x.at k + y.at k
def L5.add (x y : L5) : L5 := (L5.fn (addF x y)).cry

/-- the bound of what is carried -/
def L5.tight (x : L5) : Prop := x.lt 2251799813763073
theorem cry_tight (x : L5) (h : x.lt 9223372036854775808) : x.cry.tight := by
  obtain ⟨h1, h2, h3, h4, h5⟩ := cry_lt x h
  exact ⟨h1, by omega, by omega, by omega, by omega⟩
theorem tight_lt {x : L5} (h : x.tight) : x.lt 9223372036854775808 := by
  obtain ⟨h1, h2, h3, h4, h5⟩ := h
  exact ⟨by omega, by omega, by omega, by omega, by omega⟩
theorem subF_bd {x y : L5} (hx : x.lt 4611686018427387904) : (L5.fn (subF x y)).lt 9223372036854775808 := by
  obtain ⟨h1, h2, h3, h4, h5⟩ := hx
  refine ⟨?_, ?_, ?_, ?_, ?_⟩ <;> (simp only [L5.fn, subF, p4, L5.at]; simp; omega)
theorem sub_tight {x y : L5} (hx : x.lt 4611686018427387904) : (x.sub y).tight := cry_tight _ (subF_bd hx)
theorem sub_mod {x y : L5} (hy : y.lt 9223372036854775808) : ((x.sub y).val + y.val) % P25 = x.val % P25 := by
  have e1 := cry_mod (L5.fn (subF x y.cry))
  have e2 := cry_mod y
  obtain ⟨h1, h2, h3, h4, h5⟩ := cry_tight y hy
  have e3 : (L5.fn (subF x y.cry)).val + y.cry.val = x.val + P25 * 4 := by
    generalize y.cry = z at *
    simp only [L5.fn, subF, p4, L5.at, L5.val, P25]
    simp
    omega
  have : ((x.sub y).val + y.val) % P25 = ((L5.fn (subF x y.cry)).val + y.cry.val) % P25 := by
    rw [Nat.add_mod, Nat.add_mod (L5.fn (subF x y.cry)).val, e2, ← e1]; rfl
  rw [this, e3, Nat.add_mul_mod_self_left]
theorem addF_bd {x y : L5} (hx : x.lt 4611686018427387904) (hy : y.lt 4611686018427387904) : (L5.fn (addF x y)).lt 9223372036854775808 := by
  obtain ⟨h1, h2, h3, h4, h5⟩ := hx
  obtain ⟨g1, g2, g3, g4, g5⟩ := hy
  refine ⟨?_, ?_, ?_, ?_, ?_⟩ <;> (simp only [L5.fn, addF, L5.at]; omega)
theorem add_tight {x y : L5} (hx : x.lt 4611686018427387904) (hy : y.lt 4611686018427387904) : (x.add y).tight := cry_tight _ (addF_bd hx hy)
theorem add_mod (x y : L5) : (x.add y).val % P25 = (x.val + y.val) % P25 := by
  have e1 := cry_mod (L5.fn (addF x y))
  have e3 : (L5.fn (addF x y)).val = x.val + y.val := by
    simp only [L5.fn, addF, L5.at, L5.val]
    omega
  rw [← e3, ← e1]; rfl

set_option maxRecDepth 100000 in
set_option maxHeartbeats 1000000 in
theorem sub_any (x y : L5) (w : World) (hx : x.lt 4611686018427387904) (hy : y.lt 9223372036854775808) :
    Calls Try.prog 31 #[x.v, y.v] w fun e w' => e = .returned (x.sub y).v ∧ Below w.heap.size w w' := by
  have HX := Lib.hid (at_lt hx)
  have HY := Lib.hid (at_lt (cry_tight y hy))
  have HC := Lib.hid (fun w : World => carry_any y w hy)
  have HS := Lib.hid (fun w : World => carry_any (L5.fn (subF x y.cry)) w (subF_bd hx))
  obtain ⟨R, hR⟩ : ∃ R, R = gArr (x.sub y).at := ⟨_, rfl⟩
  have hV : Value.agg R = (x.sub y).v := by rw [hR]; rfl
  have HRS := Lib.hid (show R.size = 5 by rw [hR]; exact gArr_size _)
  have HR1 := Lib.hid (show R.all (·.oneCell') = true by rw [hR]; exact gArr_one _)
  rw [← hV]
  change Hid (∀ w : World, Calls _ _ #[(L5.fn (subF x y.cry)).v] w fun e w' => e = .returned (x.sub y).v ∧ Below w.heap.size w w') at HS
  rw [← hV, ← mix_fn (subF x y.cry) x.at, ← gArr_fn] at HS
  clear hV hx hy hR
  have hyv : y.v = .agg (gArr y.at) := rfl
  have hxv : x.v = .agg (gArr x.at) := rfl
  have hcv : y.cry.v = .agg (gArr y.cry.at) := rfl
  rw [hyv, hcv] at HC
  rw [hxv, hyv]
  clear hyv hxv hcv
  generalize y.cry = z at *
  obtain ⟨X, hX⟩ : ∃ X, X = gArr x.at := ⟨_, rfl⟩
  obtain ⟨Y, hY⟩ : ∃ Y, Y = gArr y.at := ⟨_, rfl⟩
  obtain ⟨Z, hZ⟩ : ∃ Z, Z = gArr z.at := ⟨_, rfl⟩
  obtain ⟨N, hN⟩ : ∃ N, N = gArr (fun _ => 0) := ⟨_, rfl⟩
  rw [← hX, ← hY]
  rw [← hY, ← hZ] at HC
  have HXE := Lib.hid hX
  have HZE := Lib.hid hZ
  have HXS := Lib.hid (show X.size = 5 by rw [hX]; exact gArr_size _)
  have HYS := Lib.hid (show Y.size = 5 by rw [hY]; exact gArr_size _)
  have HZS := Lib.hid (show Z.size = 5 by rw [hZ]; exact gArr_size _)
  have HZ1 := Lib.hid (show Z.all (·.oneCell') = true by rw [hZ]; exact gArr_one _)
  clear hX hY hZ
  go_enter Try.func31, Try.ntmps31
  go_upto_region 1 with fail
  have g0 : Box (((w.alloc (.cells X 27)).alloc (.cells Y 27)).alloc (.cells #[.int .u64 0, .int .u64 0, .int .u64 0, .int .u64 0, .int .u64 0] 27)) w.heap.size 27 X := ((Box.new _ _ _).alloc _).alloc _
  have g1 : Box (((w.alloc (.cells X 27)).alloc (.cells Y 27)).alloc (.cells #[.int .u64 0, .int .u64 0, .int .u64 0, .int .u64 0, .int .u64 0] 27)) (w.heap.size + 1) 27 Y := by
    have := (Box.new (w.alloc (.cells X 27)) 27 Y).alloc (.cells #[.int .u64 0, .int .u64 0, .int .u64 0, .int .u64 0, .int .u64 0] 27)
    simpa using this
  have g2 : Box (((w.alloc (.cells X 27)).alloc (.cells Y 27)).alloc (.cells #[.int .u64 0, .int .u64 0, .int .u64 0, .int .u64 0, .int .u64 0] 27)) (w.heap.size + 2) 27 N := by
    have := Box.new ((w.alloc (.cells X 27)).alloc (.cells Y 27)) 27 #[.int .u64 0, .int .u64 0, .int .u64 0, .int .u64 0, .int .u64 0]
    rw [hN]
    simp only [World.size_alloc] at this
    exact this
  have g3 : Below w.heap.size w (((w.alloc (.cells X 27)).alloc (.cells Y 27)).alloc (.cells #[.int .u64 0, .int .u64 0, .int .u64 0, .int .u64 0, .int .u64 0] 27)) := (((Below.refl w.heap.size w).alloc (Nat.le_refl _) _).alloc (by simp) _).alloc (by simp; omega) _
  have g4 : w.heap.size + 3 ≤ (((w.alloc (.cells X 27)).alloc (.cells Y 27)).alloc (.cells #[.int .u64 0, .int .u64 0, .int .u64 0, .int .u64 0, .int .u64 0] 27)).heap.size := by simp
  have HNS := Lib.hid (show N.size = 5 by rw [hN]; exact gArr_size _)
  clear hN
  generalize (((w.alloc (.cells X 27)).alloc (.cells Y 27)).alloc (.cells #[.int .u64 0, .int .u64 0, .int .u64 0, .int .u64 0, .int .u64 0] 27)) = W at *
  go_step
  refine wpList_load_box rfl 27 _ rfl g1 (by rfl) Try.underlying27 rfl (by rw [HYS.out]; kernel_rfl) ?_
  refine wpList_enter rfl 58 #[.agg Y] (by simp [go_sem, Act.put]) _ _ (HC.out W) ?_
  intro w1 hb1
  refine wpList_store_box rfl 27 _ _ rfl (g1.after hb1) (by rfl) (by rfl) (by rw [HYS.out, HZS.out]) (by rw [HZS.out]; kernel_rfl) HZ1.out ?_
  intro w2 hY2 hst
  have hX2 := hst.box (g0.after hb1) (by omega)
  have hN2 := hst.box (g2.after hb1) (by omega)
  have hB2 := hst.below w.heap.size w (by omega) (g3.trans (hb1.mono (by omega)))
  have hS2 : w.heap.size + 3 ≤ w2.heap.size := by have := hst.size; have := hb1.size; omega
  simp only [Act.put, List.setIfInBounds_toArray, List.set_cons_zero, List.set_cons_succ]
  clear hst hb1 g0 g1 g2 g3 g4
  rw [HXE.out] at hX2
  go_wp2_with fail
  go_loopw [9] (fun i wr => ∃ k : Nat, k ≤ 5 ∧ i = .int .i64 k ∧ Box wr w.heap.size 27 (gArr (mix (subF x z) x.at k)) ∧ Box wr (w.heap.size + 1) 27 Z ∧ Box wr (w.heap.size + 2) 27 N ∧ Below w.heap.size w wr ∧ w.heap.size + 3 ≤ wr.heap.size) (fun i _ => 5 - (intOf i).toNat)
  case atStart => exact ⟨0, by omega, rfl, by rw [mix_zero]; exact hX2, hY2, hN2, hB2, hS2⟩
  case round =>
    obtain ⟨wa, rfl⟩ : ∃ wa : World, wa = wr := ⟨_, rfl⟩
    obtain ⟨k, hk, rfl, hX, hZ, hN, hB, hS⟩ := hrel
    clear hX2 hY2 hN2 hB2 hS2
    by_cases hlt : k < 5
    · have gx := hX.cell k (gArr_get _ k hlt)
      rw [mix_here] at gx
      have fx := hX.frozen k
      have hZ' := hZ
      rw [HZE.out] at hZ'
      have gz := hZ'.cell k (gArr_get _ k hlt)
      have bx := HX.out k hlt
      have bz := HY.out k hlt
      have hs := mix_step (subF x z) x.at k
      have hd : subF x z k = x.at k + (p4 k - z.at k) := rfl
      have hp : p4 k = if k = 0 then 9007199254740916 else 9007199254740988 := rfl
      obtain ⟨u, hu⟩ : ∃ u, u = x.at k := ⟨_, rfl⟩
      obtain ⟨v, hv⟩ : ∃ v, v = z.at k := ⟨_, rfl⟩
      obtain ⟨r, hr⟩ : ∃ r, r = subF x z k := ⟨_, rfl⟩
      rw [← hu] at gx bx hd
      rw [← hv] at gz bz hd
      rw [← hr] at hd hs
      have HS' := Lib.hid hs
      have b5 : (0 : Int) ≤ (k : Int) := by omega
      have b6 : (k : Int) < 5 := by omega
      have b7 : IntKind.i64.wrap (k : Int) = (k : Int) := by rw [IntKind.wrap_i64]; omega
      clear hs hu hv hr hZ'
      by_cases hk0 : k = 0
      · subst hk0
        rw [if_pos rfl] at hp
        rw [hp] at hd
        obtain ⟨q, hq⟩ : ∃ q, q = 9007199254740916 - v := ⟨_, rfl⟩
        rw [← hq] at hd
        have m1 : (9007199254740916 : Int) - (v : Int) = (q : Int) := by omega
        have m2 : (u : Int) + (q : Int) = (r : Int) := by omega
        clear hd hp hq
        go_upto_region 8 with fail
        go_still_tail 14, (by kernel_rfl)
        change wpList _ _ _ _ _ wa.drew
        go_wp2_with fail
        refine ⟨⟨1, by omega, by go_num, ?_, hZ.far _ _ (by simp), hN.far _ _ (by simp), (hB.setCell (by simp) _).drew, by simpa using hS⟩, by simp [intOf]⟩
        have h1 := hX.set 0 (.int .u64 (r : Nat))
        rw [gArr_set, HS'.out] at h1
        exact h1
      · rw [if_neg hk0] at hp
        rw [hp] at hd
        obtain ⟨q, hq⟩ : ∃ q, q = 9007199254740988 - v := ⟨_, rfl⟩
        rw [← hq] at hd
        have m1 : (9007199254740988 : Int) - (v : Int) = (q : Int) := by omega
        have m2 : (u : Int) + (q : Int) = (r : Int) := by omega
        clear hd hp hq
        go_upto_region 8 with fail
        go_still_tail 14, (by kernel_rfl)
        change wpList _ _ _ _ _ wa.drew
        go_wp2_with fail
        refine ⟨⟨k + 1, by omega, by go_num, ?_, hZ.far _ _ (by simp), hN.far _ _ (by simp), (hB.setCell (by simp) _).drew, by simpa using hS⟩, by simp [intOf]; omega⟩
        have h1 := hX.set k (.int .u64 (r : Nat))
        rw [gArr_set, HS'.out] at h1
        exact h1
    · obtain rfl : k = 5 := by omega
      obtain ⟨G, hG⟩ : ∃ G, G = gArr (mix (subF x z) x.at 5) := ⟨_, rfl⟩
      rw [← hG] at hX HS
      have HGS := Lib.hid (show G.size = 5 by rw [hG]; exact gArr_size _)
      clear hG
      go_upto_region 10 with fail
      go_step
      refine wpList_load_box rfl 27 _ rfl hX (by rfl) Try.underlying27 rfl (by rw [HGS.out]; kernel_rfl) ?_
      refine wpList_enter rfl 58 #[.agg G] (by simp [go_sem, Act.put]) _ _ (HS.out wa) ?_
      intro w3 hb3
      refine wpList_store_box rfl 27 _ _ rfl (hN.after hb3) (by rfl) (by rfl) (by rw [HNS.out, HRS.out]) (by rw [HRS.out]; kernel_rfl) HR1.out ?_
      intro w4 hR4 hst
      have hB4 := hst.below w.heap.size w (by omega) (hB.trans (hb3.mono (by omega)))
      simp only [Act.put, List.setIfInBounds_toArray, List.set_cons_zero, List.set_cons_succ]
      clear hst hb3 hX hZ hN hB hS
      go_wp2_with fail
      exact bodyPost_ret (v := .agg R) (box_result rfl _ _ (by rfl) hR4 Try.underlying27 rfl (by rw [HRS.out]; kernel_rfl)) rfl ⟨rfl, hB4⟩
end Go.Proofs.Ytpkoniebbkkmjaa
namespace Go.Proofs.Ytpkoniebbkkmjaa
open Go.RowKit

def one2 : L5 := ⟨2, 0, 0, 0, 0⟩
def one3 : L5 := ⟨3, 0, 0, 0, 0⟩
theorem awake_val : (L5.sub one2 one3).val % P25 = 57896044618658097711785492504343953926634992332820282019728792003956564819948 := by decide +kernel

/-- five cells, each by itself -/
theorem five {w : World} {g : Nat} {T : TypeId} {a b c d e : Value} (h : Box w g T #[a, b, c, d, e]) : w.cell? ⟨g, 0, none⟩ = some a ∧ w.cell? ⟨g, 1, none⟩ = some b ∧ w.cell? ⟨g, 2, none⟩ = some c ∧ w.cell? ⟨g, 3, none⟩ = some d ∧ w.cell? ⟨g, 4, none⟩ = some e :=
  ⟨h.cell 0 rfl, h.cell 1 rfl, h.cell 2 rfl, h.cell 3 rfl, h.cell 4 rfl⟩

theorem zero_lt : L5.zero.lt 9223372036854775808 := ⟨by decide, by decide, by decide, by decide, by decide⟩
theorem same_zero (w : World) : Calls Try.prog 36 #[.agg #[.int .u64 0, .int .u64 0, .int .u64 0, .int .u64 0, .int .u64 0], .agg #[.int .u64 0, .int .u64 0, .int .u64 0, .int .u64 0, .int .u64 0]] w fun e w' => e = .returned (.bool true) ∧ Below w.heap.size w w' := by
  have := same_any L5.zero L5.zero w zero_lt zero_lt
  rw [beq_self_eq_true] at this
  exact this

end Go.Proofs.Ytpkoniebbkkmjaa
namespace Go.Proofs.Ytpkoniebbkkmjaa
open Go.RowKit

def sumF (n m j : Nat) : Nat := dig n j + dig m j

set_option maxRecDepth 100000 in
set_option maxHeartbeats 1000000 in
theorem refAdd_any (n m : Nat) (w : World) (hn : n < 115792089237316195423570985008687907853269984665640564039457584007913129639936) (hm : m < 115792089237316195423570985008687907853269984665640564039457584007913129639936) :
    Calls Try.prog 61 #[.agg (fArr (dig n)), .agg (fArr (dig m))] w fun e w' => e = .returned (.agg (fArr (dig ((n + m) % P25)))) ∧ Below w.heap.size w w' := by
  have hv : fval (mix (sumF n m) (dig n) 16) 16 = n + m := by
    rw [fval_congr (g := fun j => dig n j + dig m j) 16 (fun j hj => by unfold mix; rw [if_pos hj]; rfl), fval_add, fval_of_dig, fval_of_dig]
    simp only [Nat.reducePow]
    rw [Nat.mod_eq_of_lt hn, Nat.mod_eq_of_lt hm]
  have HFIT : Hid (∀ w : World, Calls Try.prog 60 #[.agg (fArr (mix (sumF n m) (dig n) 16))] w fun e w' => e = .returned (.agg (fArr (dig ((n + m) % P25)))) ∧ Below w.heap.size w w') := by
    refine Lib.hid fun w => ?_
    have := fit_any (mix (sumF n m) (dig n) 16) w fun j hj => by
      have h1 := dig_lt n j
      have h2 := dig_lt m j
      unfold mix sumF; rw [if_pos hj]; omega
    rwa [hv] at this
  obtain ⟨R, hR⟩ : ∃ R, R = fArr (dig ((n + m) % P25)) := ⟨_, rfl⟩
  rw [← hR] at HFIT ⊢
  have HRS := Lib.hid (show R.size = 16 by rw [hR]; exact fArr_size _)
  have HR1 := Lib.hid (show R.all (·.oneCell') = true by rw [hR]; exact fArr_one _)
  clear hR
  have HDN := Lib.hid (dig_lt n)
  have HDM := Lib.hid (dig_lt m)
  clear hv hn hm
  obtain ⟨X, hX⟩ : ∃ X, X = fArr (dig n) := ⟨_, rfl⟩
  obtain ⟨Y, hY⟩ : ∃ Y, Y = fArr (dig m) := ⟨_, rfl⟩
  rw [← hX, ← hY]
  have HX := Lib.hid hX
  have HY := Lib.hid hY
  clear hX hY
  go_enter Try.func61, Try.ntmps61
  go_upto_region 1 with fail
  have g0 : Box (((w.alloc (.cells X 34)).alloc (.cells Y 34)).alloc (.cells (Array.replicate 16 (Value.int .u64 0)) 34)) w.heap.size 34 X := ((Box.new _ _ _).alloc _).alloc _
  have g1 : Box (((w.alloc (.cells X 34)).alloc (.cells Y 34)).alloc (.cells (Array.replicate 16 (Value.int .u64 0)) 34)) (w.heap.size + 1) 34 Y := by
    have := (Box.new (w.alloc (.cells X 34)) 34 Y).alloc (.cells (Array.replicate 16 (Value.int .u64 0)) 34)
    simp only [World.size_alloc] at this
    exact this
  have g2 : Box (((w.alloc (.cells X 34)).alloc (.cells Y 34)).alloc (.cells (Array.replicate 16 (Value.int .u64 0)) 34)) (w.heap.size + 2) 34 (Array.replicate 16 (Value.int .u64 0)) := by
    have := Box.new ((w.alloc (.cells X 34)).alloc (.cells Y 34)) 34 (Array.replicate 16 (Value.int .u64 0))
    simp only [World.size_alloc] at this
    exact this
  have g3 : Below w.heap.size w (((w.alloc (.cells X 34)).alloc (.cells Y 34)).alloc (.cells (Array.replicate 16 (Value.int .u64 0)) 34)) := (((Below.refl w.heap.size w).alloc (Nat.le_refl _) _).alloc (by simp) _).alloc (by simp; omega) _
  have g4 : w.heap.size + 3 ≤ (((w.alloc (.cells X 34)).alloc (.cells Y 34)).alloc (.cells (Array.replicate 16 (Value.int .u64 0)) 34)).heap.size := by simp
  obtain ⟨N, hN⟩ : ∃ N, N = (Array.replicate 16 (Value.int .u64 0)) := ⟨_, rfl⟩
  have HNS := Lib.hid (show N.size = 16 by rw [hN]; rfl)
  change Code.wp _ _ _ _ (((w.alloc (.cells X 34)).alloc (.cells Y 34)).alloc (.cells (Array.replicate 16 (Value.int .u64 0)) 34))
  generalize (((w.alloc (.cells X 34)).alloc (.cells Y 34)).alloc (.cells (Array.replicate 16 (Value.int .u64 0)) 34)) = W at *
  rw [← hN] at g2
  clear hN
  go_wp2_with fail
  go_loopw [5] (fun i wr => ∃ k : Nat, k ≤ 16 ∧ i = .int .i64 k ∧ Box wr w.heap.size 34 (fArr (mix (sumF n m) (dig n) k)) ∧ Box wr (w.heap.size + 1) 34 Y ∧ Box wr (w.heap.size + 2) 34 N ∧ Below w.heap.size w wr ∧ w.heap.size + 3 ≤ wr.heap.size) (fun i _ => 16 - (intOf i).toNat)
  case atStart => exact ⟨0, by omega, rfl, by rw [mix_zero, ← HX.out]; exact g0, g1, g2, g3, g4⟩
  case round =>
    obtain ⟨wa, rfl⟩ : ∃ wa : World, wa = wr := ⟨_, rfl⟩
    obtain ⟨k, hk, rfl, hX, hY, hN, hB, hS⟩ := hrel
    clear g0 g1 g2 g3 g4
    by_cases hlt : k < 16
    · have gx := hX.cell k (fArr_get _ k hlt)
      rw [mix_here] at gx
      have fx := hX.frozen k
      have hY' := hY
      rw [HY.out] at hY'
      have gy := hY'.cell k (fArr_get _ k hlt)
      have bx := HDN.out k
      have by' := HDM.out k
      have hs := mix_step (sumF n m) (dig n) k
      have hd : sumF n m k = dig n k + dig m k := rfl
      obtain ⟨u, hu⟩ : ∃ u, u = dig n k := ⟨_, rfl⟩
      obtain ⟨v, hv⟩ : ∃ v, v = dig m k := ⟨_, rfl⟩
      obtain ⟨r, hr⟩ : ∃ r, r = sumF n m k := ⟨_, rfl⟩
      rw [← hu] at gx bx hd
      rw [← hv] at gy by' hd
      rw [← hr] at hd hs
      have HS' := Lib.hid hs
      have b5 : (0 : Int) ≤ (k : Int) := by omega
      have b6 : (k : Int) < 16 := by omega
      have b7 : IntKind.i64.wrap (k : Int) = (k : Int) := by rw [IntKind.wrap_i64]; omega
      have m2 : (u : Int) + (v : Int) = (r : Int) := by omega
      clear hs hu hv hr hY' hd
      go_upto_region 4 with fail
      go_still_tail 9, (by kernel_rfl)
      change wpList _ _ _ _ _ wa.drew
      go_wp2_with fail
      refine ⟨⟨k + 1, by omega, by go_num, ?_, hY.far _ _ (by simp), hN.far _ _ (by simp), (hB.setCell (by simp) _).drew, by simpa using hS⟩, by simp [intOf]; omega⟩
      have h1 := hX.set k (.int .u64 (r : Nat))
      rw [fArr_set, HS'.out] at h1
      exact h1
    · obtain rfl : k = 16 := by omega
      obtain ⟨G, hG⟩ : ∃ G, G = fArr (mix (sumF n m) (dig n) 16) := ⟨_, rfl⟩
      rw [← hG] at hX HFIT
      have HGS := Lib.hid (show G.size = 16 by rw [hG]; exact fArr_size _)
      clear hG
      go_upto_region 5 with fail
      go_step
      refine wpList_load_box rfl 34 _ rfl hX (by rfl) Try.underlying34 rfl (by rw [HGS.out]; kernel_rfl) ?_
      refine wpList_enter rfl 60 #[.agg G] (by simp [go_sem, Act.put]) _ _ (HFIT.out _) ?_
      intro w8 hb8
      refine wpList_store_box (cells := R) rfl 34 _ _ rfl (hN.after hb8) (by rfl) (by rfl) (by rw [HNS.out, HRS.out]) (by rw [HRS.out]; kernel_rfl) HR1.out ?_
      intro w9 hR9 hst9
      have hB9 := hst9.below w.heap.size w (by omega) (hB.trans (hb8.mono (by omega)))
      simp only [Act.put, List.setIfInBounds_toArray, List.set_cons_zero, List.set_cons_succ]
      clear hst9 hb8
      go_wp2_with fail
      exact bodyPost_ret (v := .agg R) (box_result rfl _ _ (by rfl) hR9 Try.underlying34 rfl (by rw [HRS.out]; kernel_rfl)) rfl ⟨rfl, hB9⟩

def pCells : Array Value := fArr (dig P25)
theorem pCells_lit : pCells = #[.int .u64 65517, .int .u64 65535, .int .u64 65535, .int .u64 65535, .int .u64 65535, .int .u64 65535, .int .u64 65535, .int .u64 65535, .int .u64 65535, .int .u64 65535, .int .u64 65535, .int .u64 65535, .int .u64 65535, .int .u64 65535, .int .u64 65535, .int .u64 32767] := by kernel_rfl

set_option maxRecDepth 100000 in
set_option maxHeartbeats 1000000 in
theorem refNeg_any (n : Nat) (w : World) (hn : n ≤ P25) :
    Calls Try.prog 39 #[.agg (fArr (dig n))] w fun e w' => e = .returned (.agg (fArr (dig ((P25 - n) % P25)))) ∧ Below w.heap.size w w' := by
  have hv : fval (mix (bd n) (dig n) 16) 16 = P25 - n := by
    rw [fval_congr (g := bd n) 16 (fun j hj => by unfold mix; rw [if_pos hj])]
    exact neg_val n hn
  have HFIT : Hid (∀ w : World, Calls Try.prog 60 #[.agg (fArr (mix (bd n) (dig n) 16))] w fun e w' => e = .returned (.agg (fArr (dig ((P25 - n) % P25)))) ∧ Below w.heap.size w w') := by
    refine Lib.hid fun w => ?_
    have := fit_any (mix (bd n) (dig n) 16) w fun j hj => by
      have h1 := bd_lt n j
      unfold mix; rw [if_pos hj]; omega
    rwa [hv] at this
  obtain ⟨R, hR⟩ : ∃ R, R = fArr (dig ((P25 - n) % P25)) := ⟨_, rfl⟩
  rw [← hR] at HFIT ⊢
  have HRS := Lib.hid (show R.size = 16 by rw [hR]; exact fArr_size _)
  have HR1 := Lib.hid (show R.all (·.oneCell') = true by rw [hR]; exact fArr_one _)
  clear hR
  have HDN := Lib.hid (dig_lt n)
  clear hv hn
  obtain ⟨X, hX⟩ : ∃ X, X = fArr (dig n) := ⟨_, rfl⟩
  rw [← hX]
  have HX := Lib.hid hX
  clear hX
  have hPS : pCells.size = 16 := fArr_size _
  have HP1 := Lib.hid (fArr_one (dig P25))
  have HPS := Lib.hid hPS
  clear hPS
  go_enter Try.func39, Try.ntmps39
  go_upto_region 1 with fail
  have g0 : Box ((w.alloc (.cells X 34)).alloc (.cells (Array.replicate 16 (Value.int .u64 0)) 34)) w.heap.size 34 X := (Box.new _ _ _).alloc _
  have g1 : Box ((w.alloc (.cells X 34)).alloc (.cells (Array.replicate 16 (Value.int .u64 0)) 34)) (w.heap.size + 1) 34 (Array.replicate 16 (Value.int .u64 0)) := by
    have := Box.new (w.alloc (.cells X 34)) 34 (Array.replicate 16 (Value.int .u64 0))
    simp only [World.size_alloc] at this
    exact this
  have g3 : Below w.heap.size w ((w.alloc (.cells X 34)).alloc (.cells (Array.replicate 16 (Value.int .u64 0)) 34)) := ((Below.refl w.heap.size w).alloc (Nat.le_refl _) _).alloc (by simp) _
  have g4 : ((w.alloc (.cells X 34)).alloc (.cells (Array.replicate 16 (Value.int .u64 0)) 34)).heap.size = w.heap.size + 2 := by simp
  obtain ⟨N, hN⟩ : ∃ N, N = (Array.replicate 16 (Value.int .u64 0)) := ⟨_, rfl⟩
  have HNS := Lib.hid (show N.size = 16 by rw [hN]; rfl)
  change Code.wp _ _ _ _ ((w.alloc (.cells X 34)).alloc (.cells (Array.replicate 16 (Value.int .u64 0)) 34))
  generalize ((w.alloc (.cells X 34)).alloc (.cells (Array.replicate 16 (Value.int .u64 0)) 34)) = W at *
  rw [← hN] at g1
  clear hN
  go_step
  refine wpList_value rfl (.agg pCells) (by rw [pCells_lit]; simp [go_sem]) ?_
  refine wpList_alloc_box rfl 34 rfl (Array.replicate 16 (Value.int .u64 0)) (by intro w; simp [go_sem]; rfl) ?_
  refine wpList_store_box (cells := pCells) rfl 34 _ _ rfl (Box.new _ _ _) (by rfl) (by rfl) (by rw [HPS.out]; rfl) (by rw [HPS.out]; kernel_rfl) HP1.out ?_
  intro w2 hP2 hst
  have hX2 := hst.box (g0.alloc _) (by omega)
  have hN2 := hst.box (g1.alloc _) (by omega)
  have hB2 := hst.below w.heap.size w (by omega) (g3.alloc (by omega) _)
  have hS2 : w.heap.size + 3 ≤ w2.heap.size := by have := hst.size; simp at this; omega
  rw [g4] at hP2
  simp only [Act.put, List.setIfInBounds_toArray, List.set_cons_zero, List.set_cons_succ]
  rw [g4]
  clear hst g0 g1 g3 g4
  rw [HX.out] at hX2
  go_wp2_with fail
  go_loopw [4, 5] (fun c i wr => ∃ k : Nat, k ≤ 16 ∧ i = .int .i64 k ∧ c = .int .u64 (br n k : Nat) ∧ Box wr w.heap.size 34 (fArr (mix (bd n) (dig n) k)) ∧ Box wr (w.heap.size + 2) 34 pCells ∧ Box wr (w.heap.size + 1) 34 N ∧ Below w.heap.size w wr ∧ w.heap.size + 3 ≤ wr.heap.size) (fun _ i _ => 16 - (intOf i).toNat)
  case atStart => exact ⟨0, by omega, rfl, rfl, by rw [mix_zero]; exact hX2, hP2, hN2, hB2, hS2⟩
  case round =>
    obtain ⟨wa, rfl⟩ : ∃ wa : World, wa = wr := ⟨_, rfl⟩
    obtain ⟨k, hk, rfl, rfl, hX, hP, hN, hB, hS⟩ := hrel
    clear hX2 hP2 hN2 hB2 hS2
    by_cases hlt : k < 16
    · have gx := hX.cell k (fArr_get _ k hlt)
      rw [mix_here] at gx
      have fx := hX.frozen k
      have gp := hP.cell k (fArr_get _ k hlt)
      have bx := HDN.out k
      have bp := dig_lt P25 k
      have bb := br_le n k
      have hs := mix_step (bd n) (dig n) k
      have hd : bd n k = (dig P25 k + 65536 - dig n k - br n k) % 65536 := rfl
      have hb : br n (k + 1) = 1 - (dig P25 k + 65536 - dig n k - br n k) / 65536 := rfl
      obtain ⟨u, hu⟩ : ∃ u, u = dig n k := ⟨_, rfl⟩
      obtain ⟨v, hv⟩ : ∃ v, v = dig P25 k := ⟨_, rfl⟩
      obtain ⟨r, hr⟩ : ∃ r, r = bd n k := ⟨_, rfl⟩
      obtain ⟨c, hc⟩ : ∃ c, c = br n k := ⟨_, rfl⟩
      obtain ⟨c', hc'⟩ : ∃ c', c' = br n (k + 1) := ⟨_, rfl⟩
      rw [← hu] at gx bx
      rw [← hv] at gp bp
      rw [← hr] at hd hs
      rw [← hu, ← hv, ← hc] at hd
      rw [← hu, ← hv, ← hc, ← hc'] at hb
      rw [← hc] at bb ⊢
      obtain ⟨t, ht⟩ : ∃ t, t = v + 65536 - u - c := ⟨_, rfl⟩
      rw [← ht] at hd hb
      obtain ⟨q, hq⟩ : ∃ q, q = t / 65536 := ⟨_, rfl⟩
      obtain ⟨v1, hv1⟩ : ∃ v1, v1 = v + 65536 := ⟨_, rfl⟩
      obtain ⟨v2, hv2⟩ : ∃ v2, v2 = v1 - u := ⟨_, rfl⟩
      have HS' := Lib.hid hs
      have HC' := Lib.hid hc'
      have b5 : (0 : Int) ≤ (k : Int) := by omega
      have b6 : (k : Int) < 16 := by omega
      have b7 : IntKind.i64.wrap (k : Int) = (k : Int) := by rw [IntKind.wrap_i64]; omega
      have m1 : IntKind.u64.wrap ((v : Int) + 65536) = (v1 : Int) := by rw [IntKind.wrap_u64]; omega
      have m2 : IntKind.u64.wrap ((v1 : Int) - (u : Int)) = (v2 : Int) := by rw [IntKind.wrap_u64]; omega
      have m3 : IntKind.u64.wrap ((v2 : Int) - (c : Int)) = (t : Int) := by rw [IntKind.wrap_u64]; omega
      have m4 : (t : Int) / 65536 = (q : Int) := by omega
      have m5 : (1 : Int) - (q : Int) = (c' : Int) := by omega
      have m6 : (t : Int) % 65536 = (r : Int) := by omega
      have bt : t < 131072 := by omega
      have bq : q ≤ 1 := by omega
      clear hs hu hv hr hc hc' ht hq hv1 hv2 hd hb
      have hcell : ∀ w', Below wa.heap.size wa w' → w'.cell? ⟨w.heap.size, k, none⟩ = some (.int .u64 u) ∧ w'.cell? ⟨w.heap.size + 2, k, none⟩ = some (.int .u64 v) := fun w' h => ⟨(h.cell (p := ⟨w.heap.size, k, none⟩) (by simp; omega)).trans gx, (h.cell (p := ⟨w.heap.size + 2, k, none⟩) (by simp; omega)).trans gp⟩
      go_upto_region 6 with fail
      refine wp_region_made wa.heap.size wa rfl (by kernel_rfl) (Below.refl _ _) ?_
      refine wpQ_run rfl (.int .i64 k) (fun w h => by simp [go_sem]) ?_
      simp only [Act.put, List.setIfInBounds_toArray, List.set_cons_zero, List.set_cons_succ]
      refine wpQ_run rfl (.pointer (some ⟨w.heap.size + 2, k, none⟩)) (fun w h => by simp [go_sem, b5, b6]) ?_
      simp only [Act.put, List.setIfInBounds_toArray, List.set_cons_zero, List.set_cons_succ]
      refine wpQ_run rfl (.int .u64 v) (fun w h => by simp [go_sem, (hcell w h).2]) ?_
      simp only [Act.put, List.setIfInBounds_toArray, List.set_cons_zero, List.set_cons_succ]
      refine wpQ_run rfl (.int .u64 v1) (fun w h => by simp [go_sem, m1]) ?_
      simp only [Act.put, List.setIfInBounds_toArray, List.set_cons_zero, List.set_cons_succ]
      refine wpQ_run rfl (.int .i64 k) (fun w h => by simp [go_sem]) ?_
      simp only [Act.put, List.setIfInBounds_toArray, List.set_cons_zero, List.set_cons_succ]
      refine wpQ_run rfl (.pointer (some ⟨w.heap.size, k, none⟩)) (fun w h => by simp [go_sem, b5, b6]) ?_
      simp only [Act.put, List.setIfInBounds_toArray, List.set_cons_zero, List.set_cons_succ]
      refine wpQ_run rfl (.int .u64 u) (fun w h => by simp [go_sem, (hcell w h).1]) ?_
      simp only [Act.put, List.setIfInBounds_toArray, List.set_cons_zero, List.set_cons_succ]
      refine wpQ_run rfl (.int .u64 v2) (fun w h => by simp [go_sem, m2]) ?_
      simp only [Act.put, List.setIfInBounds_toArray, List.set_cons_zero, List.set_cons_succ]
      refine wpQ_run rfl (.int .u64 c) (fun w h => by simp [go_sem]) ?_
      simp only [Act.put, List.setIfInBounds_toArray, List.set_cons_zero, List.set_cons_succ]
      refine wpQ_run rfl (.int .u64 t) (fun w h => by simp [go_sem, m3]) ?_
      simp only [Act.put, List.setIfInBounds_toArray, List.set_cons_zero, List.set_cons_succ]
      refine wpQ_run rfl (.int .u64 t) (fun w h => by simp [go_sem]) ?_
      simp only [Act.put, List.setIfInBounds_toArray, List.set_cons_zero, List.set_cons_succ]
      intro w3 hb3
      have hX3 := hX.after hb3
      have hP3 := hP.after hb3
      have hN3 := hN.after hb3
      have hB3 := hB.trans (hb3.mono (by omega))
      have hS3 := Nat.le_trans hS hb3.size
      have gx3 := (hcell w3 hb3).1
      have fx3 := hX3.frozen k
      clear hcell hX hP hN hB hS hb3 gx gp fx
      go_wp2_with fail
      refine ⟨⟨k + 1, by omega, by go_num, by rw [HC'.out], ?_, hP3.far _ _ (by simp), hN3.far _ _ (by simp), hB3.setCell (by simp) _, by simpa using hS3⟩, by simp [intOf]; omega⟩
      have h1 := hX3.set k (.int .u64 (r : Nat))
      rw [fArr_set, HS'.out] at h1
      exact h1
    · obtain rfl : k = 16 := by omega
      obtain ⟨G, hG⟩ : ∃ G, G = fArr (mix (bd n) (dig n) 16) := ⟨_, rfl⟩
      rw [← hG] at hX HFIT
      have HGS := Lib.hid (show G.size = 16 by rw [hG]; exact fArr_size _)
      clear hG
      go_upto_region 9 with fail
      go_step
      refine wpList_load_box rfl 34 _ rfl hX (by rfl) Try.underlying34 rfl (by rw [HGS.out]; kernel_rfl) ?_
      refine wpList_enter rfl 60 #[.agg G] (by simp [go_sem, Act.put]) _ _ (HFIT.out _) ?_
      intro w8 hb8
      refine wpList_store_box (cells := R) rfl 34 _ _ rfl (hN.after hb8) (by rfl) (by rfl) (by rw [HNS.out, HRS.out]) (by rw [HRS.out]; kernel_rfl) HR1.out ?_
      intro w9 hR9 hst9
      have hB9 := hst9.below w.heap.size w (by omega) (hB.trans (hb8.mono (by omega)))
      simp only [Act.put, List.setIfInBounds_toArray, List.set_cons_zero, List.set_cons_succ]
      clear hst9 hb8
      go_wp2_with fail
      exact bodyPost_ret (v := .agg R) (box_result rfl _ _ (by rfl) hR9 Try.underlying34 rfl (by rw [HRS.out]; kernel_rfl)) rfl ⟨rfl, hB9⟩

set_option maxRecDepth 100000 in
set_option maxHeartbeats 1000000 in
theorem refSub_any (n m : Nat) (w : World) (hn : n < P25) (hm : m < P25) :
    Calls Try.prog 62 #[.agg (fArr (dig n)), .agg (fArr (dig m))] w fun e w' => e = .returned (.agg (fArr (dig ((n + (P25 - m)) % P25)))) ∧ Below w.heap.size w w' := by
  have hP : P25 < 115792089237316195423570985008687907853269984665640564039457584007913129639936 := by unfold P25; omega
  have hlt : (P25 - m) % P25 < P25 := Nat.mod_lt _ (by unfold P25; omega)
  have HNEG := Lib.hid (fun w : World => refNeg_any m w (Nat.le_of_lt hm))
  have HFIT : Hid (∀ w : World, Calls Try.prog 61 #[.agg (fArr (dig n)), .agg (fArr (dig ((P25 - m) % P25)))] w fun e w' => e = .returned (.agg (fArr (dig ((n + (P25 - m)) % P25)))) ∧ Below w.heap.size w w') := by
    refine Lib.hid fun w => ?_
    have := refAdd_any n ((P25 - m) % P25) w (by omega) (by omega)
    rwa [Nat.add_mod_mod] at this
  obtain ⟨R, hR⟩ : ∃ R, R = fArr (dig ((n + (P25 - m)) % P25)) := ⟨_, rfl⟩
  rw [← hR] at HFIT ⊢
  have HRS := Lib.hid (show R.size = 16 by rw [hR]; exact fArr_size _)
  have HR1 := Lib.hid (show R.all (·.oneCell') = true by rw [hR]; exact fArr_one _)
  clear hR
  clear hP hlt hn hm
  obtain ⟨X, hX⟩ : ∃ X, X = fArr (dig n) := ⟨_, rfl⟩
  obtain ⟨Y, hY⟩ : ∃ Y, Y = fArr (dig m) := ⟨_, rfl⟩
  obtain ⟨M, hM⟩ : ∃ M, M = fArr (dig ((P25 - m) % P25)) := ⟨_, rfl⟩
  rw [← hX, ← hY]
  rw [← hX, ← hM] at HFIT
  rw [← hY, ← hM] at HNEG
  have HXS := Lib.hid (show X.size = 16 by rw [hX]; exact fArr_size _)
  have HYS := Lib.hid (show Y.size = 16 by rw [hY]; exact fArr_size _)
  clear hX hY hM
  go_enter Try.func62, Try.ntmps62
  go_upto_region 1 with fail
  have g0 : Box (((w.alloc (.cells X 34)).alloc (.cells Y 34)).alloc (.cells (Array.replicate 16 (Value.int .u64 0)) 34)) w.heap.size 34 X := ((Box.new _ _ _).alloc _).alloc _
  have g1 : Box (((w.alloc (.cells X 34)).alloc (.cells Y 34)).alloc (.cells (Array.replicate 16 (Value.int .u64 0)) 34)) (w.heap.size + 1) 34 Y := by
    have := (Box.new (w.alloc (.cells X 34)) 34 Y).alloc (.cells (Array.replicate 16 (Value.int .u64 0)) 34)
    simp only [World.size_alloc] at this
    exact this
  have g2 : Box (((w.alloc (.cells X 34)).alloc (.cells Y 34)).alloc (.cells (Array.replicate 16 (Value.int .u64 0)) 34)) (w.heap.size + 2) 34 (Array.replicate 16 (Value.int .u64 0)) := by
    have := Box.new ((w.alloc (.cells X 34)).alloc (.cells Y 34)) 34 (Array.replicate 16 (Value.int .u64 0))
    simp only [World.size_alloc] at this
    exact this
  have g3 : Below w.heap.size w (((w.alloc (.cells X 34)).alloc (.cells Y 34)).alloc (.cells (Array.replicate 16 (Value.int .u64 0)) 34)) := (((Below.refl w.heap.size w).alloc (Nat.le_refl _) _).alloc (by simp) _).alloc (by simp; omega) _
  have g4 : w.heap.size + 3 ≤ (((w.alloc (.cells X 34)).alloc (.cells Y 34)).alloc (.cells (Array.replicate 16 (Value.int .u64 0)) 34)).heap.size := by simp
  obtain ⟨N, hN⟩ : ∃ N, N = (Array.replicate 16 (Value.int .u64 0)) := ⟨_, rfl⟩
  have HNS := Lib.hid (show N.size = 16 by rw [hN]; rfl)
  change Code.wp _ _ _ _ (((w.alloc (.cells X 34)).alloc (.cells Y 34)).alloc (.cells (Array.replicate 16 (Value.int .u64 0)) 34))
  generalize (((w.alloc (.cells X 34)).alloc (.cells Y 34)).alloc (.cells (Array.replicate 16 (Value.int .u64 0)) 34)) = W at *
  rw [← hN] at g2
  clear hN
  have LX : ∀ w' : World, Below (w.heap.size + 2) W w' → Box w' w.heap.size 34 X := fun w' h => g0.below h (by omega)
  have LY : ∀ w' : World, Below (w.heap.size + 2) W w' → Box w' (w.heap.size + 1) 34 Y := fun w' h => g1.below h (by omega)
  refine wp_region_held_drew (S := fun w' => Below (w.heap.size + 2) W w') rfl (Below.refl _ _).drew (fun hS0 => ?_)
  refine wpH_take 0 rfl (by kernel_rfl) (by kernel_rfl) (by kernel_rfl) rfl (fun _ _ _ _ h => h) (.agg X) (fun w' h => run_load_box rfl (LX w' h) (by rfl) Try.underlying34 rfl (by rw [HXS.out]; kernel_rfl)) hS0 ?_
  refine wpH_take 1 rfl (by kernel_rfl) (by kernel_rfl) (by kernel_rfl) rfl (fun _ _ _ _ h => h) (.agg Y) (fun w' h => run_load_box rfl (LY w' h) (by rfl) Try.underlying34 rfl (by rw [HYS.out]; kernel_rfl)) hS0 ?_
  refine wpH_enter 2 rfl (by kernel_rfl) rfl 39 #[.agg Y] (by simp [go_sem, Act.put]) _ (HNEG.out _) ?_
  rintro e w1 ⟨rfl, hb1⟩
  have hB1 := hS0.trans (hb1.mono (by simp; omega))
  have hN1 := (g2.drew).after hb1
  have hs1 : w.heap.size + 3 ≤ w1.heap.size := by have := hb1.size; simp at this; omega
  refine ⟨_, rfl, hB1, ?_⟩
  refine wpH_enter 3 rfl (by kernel_rfl) rfl 61 #[.agg X, .agg M] (by simp [go_sem, Act.put]) _ (HFIT.out _) ?_
  rintro e w2 ⟨rfl, hb2⟩
  have hB2 := hB1.trans (hb2.mono (by omega))
  have hN2 := hN1.after hb2
  refine ⟨_, rfl, hB2, ?_⟩
  refine wpH_store_box 4 rfl (by kernel_rfl) rfl 34 (.tmp 4) (.tmp 8) rfl hN2 (by simp [go_sem, Act.put]) (by simp [go_sem, Act.put]) (by rw [HNS.out, HRS.out]) (by rw [HRS.out]; kernel_rfl) HR1.out ?_
  intro w3 hR3 hst
  have hB3 := hst.below _ _ (Nat.le_refl _) hB2
  refine ⟨hB3, wpAnyH_done (by kernel_rfl) ?_ _⟩
  have hE := g3.trans (hB3.mono (by omega))
  simp only [Act.put, List.setIfInBounds_toArray, List.set_cons_zero, List.set_cons_succ]
  clear hst hB3 hB2 hB1 hb1 hb2 hN1 hN2 LX LY g0 g1 g2 g3 hS0
  go_wp2_with fail
  exact bodyPost_ret (v := .agg R) (box_result rfl _ _ (by rfl) hR3 Try.underlying34 rfl (by rw [HRS.out]; kernel_rfl)) rfl ⟨rfl, hE⟩
end Go.Proofs.Ytpkoniebbkkmjaa

/- scalar: rest: what it computes. -/
import Derived.Test.YtpkoniebbkkmjaaSc1Mg
namespace Go.Proofs.Ytpkoniebbkkmjaa
open Go.RowKit

/-- the rest, i bits on -/
def rstN (A c i : Nat) : Nat := (A * 2 ^ i + c / 2 ^ (8 - i)) % LL
theorem rstN_lt (A c i : Nat) : rstN A c i < LL := Nat.mod_lt _ (by unfold LL; omega)
theorem LL_256 : LL < W256 ∧ 2 * LL < W256 := by unfold LL W256; omega
theorem or_bit (x b : Nat) (hb : b < 2) : bits BinOp.or IntKind.u64 (((2 * x) % 18446744073709551616 : Nat) : Int) (b : Int) = (((2 * x) % 18446744073709551616 + b : Nat) : Int) := by
  rw [u64_or_nat _ _ (by omega) (by omega)]
  have h := Nat.two_pow_add_eq_or_of_lt (i := 1) (b := b) (by omega) ((2 * x) % 18446744073709551616 / 2)
  have e : 2 ^ 1 * ((2 * x) % 18446744073709551616 / 2) = (2 * x) % 18446744073709551616 := by omega
  rw [e] at h
  rw [h]

set_option maxRecDepth 100000 in
set_option maxHeartbeats 8000000 in
theorem rest_any (A c : Nat) (w : World) (hA : A < LL) (hc : c < 256) :
    Calls Try.prog 52 #[.agg (wArr (wd A)), .int .u8 c] w fun e w' => e = .returned (.agg (wArr (wd ((256 * A + c) % LL)))) ∧ Below w.heap.size w w' := by
  have HE := Lib.hid (byte_end A c LL)
  have HST := Lib.hid (byte_start A c LL hc hA)
  have HC := Lib.hid hc
  obtain ⟨G, hG⟩ : ∃ G, G = wArr (wd ((256 * A + c) % LL)) := ⟨_, rfl⟩
  rw [← hG]
  have HGS := Lib.hid (show G.size = 4 by rw [hG]; exact wArr_size _)
  have HG1 := Lib.hid (show G.all (·.oneCell') = true by rw [hG]; exact wArr_one _)
  rw [← HE.out] at hG
  have HG := Lib.hid hG
  clear hG
  obtain ⟨X, hX⟩ : ∃ X, X = wArr (wd A) := ⟨_, rfl⟩
  obtain ⟨N, hN⟩ : ∃ N, N = wArr (fun _ => 0) := ⟨_, rfl⟩
  obtain ⟨L, hL⟩ : ∃ L, L = wArr (wd LL) := ⟨_, rfl⟩
  rw [← hX]
  have HXE := Lib.hid hX
  have HXS := Lib.hid (show X.size = 4 by rw [hX]; exact wArr_size _)
  have HNS := Lib.hid (show N.size = 4 by rw [hN]; exact wArr_size _)
  have HLS := Lib.hid (show L.size = 4 by rw [hL]; exact wArr_size _)
  have HL1 := Lib.hid (show L.all (·.oneCell') = true by rw [hL]; exact wArr_one _)
  have HLE := Lib.hid hL
  have HO : Hid (∀ w : World, Calls Try.prog 68 #[] w fun e w' => e = .returned (.agg L) ∧ Below w.heap.size w w') := Lib.hid (by rw [hL]; exact order_any)
  clear hX hA hc hL
  go_enter Try.func52, Try.ntmps52
  go_upto_region 1 with fail
  have g0 : Box ((w.alloc (.cells X 79)).alloc (.cells #[.int .u64 0, .int .u64 0, .int .u64 0, .int .u64 0] 79)) w.heap.size 79 X := (Box.new _ _ _).alloc _
  have g1 : Box ((w.alloc (.cells X 79)).alloc (.cells #[.int .u64 0, .int .u64 0, .int .u64 0, .int .u64 0] 79)) (w.heap.size + 1) 79 N := by
    have := Box.new (w.alloc (.cells X 79)) 79 #[.int .u64 0, .int .u64 0, .int .u64 0, .int .u64 0]
    rw [hN]
    simp only [World.size_alloc] at this
    exact this
  have g3 : Below w.heap.size w ((w.alloc (.cells X 79)).alloc (.cells #[.int .u64 0, .int .u64 0, .int .u64 0, .int .u64 0] 79)) := ((Below.refl w.heap.size w).alloc (Nat.le_refl _) _).alloc (by simp) _
  have g4 : w.heap.size + 2 ≤ ((w.alloc (.cells X 79)).alloc (.cells #[.int .u64 0, .int .u64 0, .int .u64 0, .int .u64 0] 79)).heap.size := by simp
  clear hN
  generalize ((w.alloc (.cells X 79)).alloc (.cells #[.int .u64 0, .int .u64 0, .int .u64 0, .int .u64 0] 79)) = W at *
  have hX2 := g0
  have hN2 := g1
  have hB2 := g3
  have hS2 := g4
  clear g0 g1 g3 g4
  go_step
  refine wpList_made_call rfl 68 #[] (by simp [go_sem]) _ (HO.out _) ?_
  intro v1 bv1
  simp only [Act.put, List.setIfInBounds_toArray, List.set_cons_zero, List.set_cons_succ]
  replace hX2 := hX2.after bv1
  replace hN2 := hN2.after bv1
  replace hB2 := hB2.trans (bv1.mono (by omega))
  replace hS2 := Nat.le_trans hS2 bv1.size
  clear bv1
  refine wpList_new rfl 79 rfl #[.int .u64 0, .int .u64 0, .int .u64 0, .int .u64 0] (by intro w; simp [go_sem]) ?_
  intro gL v2 hL2 lL bv2
  simp only [Act.put, List.setIfInBounds_toArray, List.set_cons_zero, List.set_cons_succ]
  replace hX2 := hX2.after bv2
  replace hN2 := hN2.after bv2
  replace hB2 := hB2.trans (bv2.mono (by omega))
  have lL' : w.heap.size + 2 ≤ gL := Nat.le_trans hS2 lL
  clear bv2 lL hS2
  refine wpList_store_box (cells := L) rfl 79 (.tmp 5) (.tmp 11) rfl hL2 (by rfl) (by rfl) (by rw [HLS.out]; rfl) (by rw [HLS.out]; kernel_rfl) (HL1.out) ?_
  intro v3 hL3 st3
  simp only [Act.put]
  replace hX2 := st3.box hX2 (by omega)
  replace hN2 := st3.box hN2 (by omega)
  replace hB2 := st3.below w.heap.size w (by omega) hB2
  clear st3 hL2
  go_wp2_with fail
  go_loopw [12] (fun i wr => ∃ k : Nat, k ≤ 8 ∧ i = .int .i64 k ∧ Box wr w.heap.size 79 (wArr (wd (rstN A c k))) ∧ Box wr (w.heap.size + 1) 79 N ∧ Box wr gL 79 L ∧ Below w.heap.size w wr) (fun i _ => 8 - (intOf i).toNat)
  case atStart => exact ⟨0, by omega, rfl, by rw [show rstN A c 0 = A from HST.out, ← HXE.out]; exact hX2, hN2, hL3, hB2⟩
  case round =>
    obtain ⟨wa, rfl⟩ : ∃ wa : World, wa = wr := ⟨_, rfl⟩
    obtain ⟨i, hi, rfl, hX, hN, hL, hB⟩ := hrel
    clear hX2 hN2 hL3 hB2
    by_cases hlt : i < 8
    · have hst := bit_step 8 A c i LL hlt
      have hR := rstN_lt A c i
      change (2 * rstN A c i + c / 2 ^ (8 - 1 - i) % 2) % LL = rstN A c (i + 1) at hst
      obtain ⟨R, hRe⟩ : ∃ R, R = rstN A c i := ⟨_, rfl⟩
      obtain ⟨R', hRe'⟩ : ∃ R', R' = rstN A c (i + 1) := ⟨_, rfl⟩
      obtain ⟨d, hd⟩ : ∃ d, d = c / 2 ^ (8 - 1 - i) % 2 := ⟨_, rfl⟩
      have hd2 : d < 2 := by omega
      rw [← hRe] at hX hst hR
      rw [← hd, ← hRe'] at hst
      have i1 : IntKind.i64.wrap (7 - (i : Int)) = ((7 - i : Nat) : Int) := by rw [IntKind.wrap_i64]; omega
      have i2 : (7 - (i : Int)) = ((7 - i : Nat) : Int) := by omega
      have i3 : bits BinOp.and IntKind.u8 ((c : Int) / 2 ^ (7 - i)) 1 = (d : Int) := by
        have hc := HC.out
        have h8 : c / 2 ^ (7 - i) < 256 := Nat.lt_of_le_of_lt (Nat.div_le_self _ _) hc
        rw [show ((c : Int) / 2 ^ (7 - i)) = ((c / 2 ^ (7 - i) : Nat) : Int) by simp, show (1 : Int) = ((1 : Nat) : Int) from rfl, u8_and_nat _ _ (by omega) (by omega), Nat.and_one_is_mod, hd, show 8 - 1 - i = 7 - i by omega]
      have b5 : (0 : Int) ≤ (i : Int) := by omega
      have HRE' := Lib.hid hRe'
      have HST' := Lib.hid hst
      have HR := Lib.hid hR
      clear hRe hRe' hd hst hR
      go_wp2_with fail
      have hsh := shl_word R d
      have hcn := carW_next R d
      go_loopw [7, 21] (fun cv j wr => ∃ k : Nat, k ≤ 4 ∧ cv = .int .u64 (carW R d k : Nat) ∧ j = .int .i64 k ∧ Box wr w.heap.size 79 (wArr (mx (wd (2 * R + d)) (wd R) k)) ∧ Box wr (w.heap.size + 1) 79 N ∧ Box wr gL 79 L ∧ Below w.heap.size w wr) (fun _ i _ => 4 - (intOf i).toNat)
      case atStart => exact ⟨0, by omega, by rw [carW_zero], rfl, by rw [mx_zero]; exact hX, hN, hL, hB⟩
      case round =>
        obtain ⟨wb, rfl⟩ : ∃ wb : World, wb = wr := ⟨_, rfl⟩
        obtain ⟨k, hk, rfl, rfl, hX2, hN2, hL2, hB2⟩ := hrel
        clear hX hN hL hB
        by_cases hlt2 : k < 4
        · have gx := hX2.cell k (wArr_get _ k hlt2)
          rw [mx_here] at gx
          have hsh := hsh k hd2 hlt2
          have hcn := hcn k hd2 hlt2
          have hcl := carW_lt R d k hd2 (by omega)
          have hcl2 := carW_lt R d (k + 1) hd2 (by omega)
          have bx := wd_lt R k
          have HS' := Lib.hid (mx_step (wd (2 * R + d)) (wd R) k)
          obtain ⟨x, hx⟩ : ∃ x, x = wd R k := ⟨_, rfl⟩
          obtain ⟨b, hb⟩ : ∃ b, b = carW R d k := ⟨_, rfl⟩
          obtain ⟨b', hb'⟩ : ∃ b', b' = carW R d (k + 1) := ⟨_, rfl⟩
          obtain ⟨r, hr⟩ : ∃ r, r = wd (2 * R + d) k := ⟨_, rfl⟩
          rw [← hx] at gx hsh hcn bx
          rw [← hb] at hsh hcl ⊢
          rw [← hb'] at hcn hcl2
          rw [← hr] at hsh HS'
          have HB' := Lib.hid hb'
          have hv : ∀ g, ∀ w' : World, Box w' g 79 (wArr (mx (wd (2 * R + d)) (wd R) k)) → w'.cell? ⟨g, k, none⟩ = some (.int .u64 x) := fun g w' h => by
            have := h.cell k (wArr_get _ k hlt2); rw [mx_here, ← hx] at this; exact this
          have hor := or_bit x b hcl
          rw [hsh] at hor
          have hsr : (x : Int) / 9223372036854775808 = (b' : Int) := by omega
          have HV := Lib.hid hv
          clear hx hb hb' hr hsh hcn hv
          have b5 : (0 : Int) ≤ (k : Int) := by omega
          have b6 : (k : Int) < 4 := by omega
          go_upto_region 9 with fail
          have hKS : Keeps (fun _ : World => True) := fun _ _ _ _ => trivial
          refine wp_region_U (w := wb) (fun _ : World => True) rfl trivial ?_
          have hX3 : Box wb.drew w.heap.size 79 (wArr (mx (wd (2 * R + d)) (wd R) k)) := hX2.drew
          refine wpU_val 0 hKS rfl (by kernel_rfl) (by kernel_rfl) (by kernel_rfl) rfl (fun _ _ _ _ h => h) (.int .i64 k) (fun w' h => by simp [go_sem]) ?_
          simp only [Act.put, List.setIfInBounds_toArray, List.set_cons_zero, List.set_cons_succ]
          refine wpU_val 1 hKS rfl (by kernel_rfl) (by kernel_rfl) (by kernel_rfl) rfl (fun _ _ _ _ h => h) (.int .i64 k) (fun w' h => by simp [go_sem]) ?_
          simp only [Act.put, List.setIfInBounds_toArray, List.set_cons_zero, List.set_cons_succ]
          refine wpU_val 2 hKS rfl (by kernel_rfl) (by kernel_rfl) (by kernel_rfl) rfl (fun _ _ _ _ h => h) (.pointer (some ⟨w.heap.size, k, none⟩)) (fun w' h => by simp [go_sem, b5, b6]) ?_
          simp only [Act.put, List.setIfInBounds_toArray, List.set_cons_zero, List.set_cons_succ]
          refine wpU_val 5 hKS rfl (by kernel_rfl) (by kernel_rfl) (by kernel_rfl) rfl (fun _ _ _ _ h => h) (.int .u64 b) (fun w' h => by simp [go_sem]) ?_
          simp only [Act.put, List.setIfInBounds_toArray, List.set_cons_zero, List.set_cons_succ]
          refine wpU_val 7 hKS rfl (by kernel_rfl) (by kernel_rfl) (by kernel_rfl) rfl (fun _ _ _ _ h => h) (.int .i64 k) (fun w' h => by simp [go_sem]) ?_
          simp only [Act.put, List.setIfInBounds_toArray, List.set_cons_zero, List.set_cons_succ]
          refine wpU_val 8 hKS rfl (by kernel_rfl) (by kernel_rfl) (by kernel_rfl) rfl (fun _ _ _ _ h => h) (.pointer (some ⟨w.heap.size, k, none⟩)) (fun w' h => by simp [go_sem, b5, b6]) ?_
          simp only [Act.put, List.setIfInBounds_toArray, List.set_cons_zero, List.set_cons_succ]
          refine wpU_fork 3 9 rfl rfl (by kernel_rfl) (.int .u64 x) (.int .u64 x) rfl rfl (fun w1 b1 s1 => by simp [go_sem, HV.out _ _ (hX3.after b1)]) (fun w1 b1 s1 => by simp [go_sem, HV.out _ _ (hX3.after b1)]) ?_ ?_
          · simp only [Act.put, List.setIfInBounds_toArray, List.set_cons_zero, List.set_cons_succ]
            refine wpU_val 4 hKS rfl (by kernel_rfl) (by kernel_rfl) (by kernel_rfl) rfl (fun _ _ _ _ h => h) (.int .u64 (2 * x % 18446744073709551616 : Nat)) (fun w' h => by simp [go_sem, IntKind.wrap_u64, Int.mul_comm]) ?_
            simp only [Act.put, List.setIfInBounds_toArray, List.set_cons_zero, List.set_cons_succ]
            refine wpU_val 6 hKS rfl (by kernel_rfl) (by kernel_rfl) (by kernel_rfl) rfl (fun _ _ _ _ h => h) (.int .u64 r) (fun w' h => by simp [go_sem]; exact hor) ?_
            simp only [Act.put, List.setIfInBounds_toArray, List.set_cons_zero, List.set_cons_succ]
            refine wpU_oneval 9 rfl (by kernel_rfl) rfl (.int .u64 x) (fun w1 b1 s1 => by simp [go_sem, HV.out _ _ (hX3.after b1)]) ?_
            simp only [Act.put, List.setIfInBounds_toArray, List.set_cons_zero, List.set_cons_succ]
            refine wpU_val 10 hKS rfl (by kernel_rfl) (by kernel_rfl) (by kernel_rfl) rfl (fun _ _ _ _ h => h) (.int .u64 b') (fun w' h => by simp [go_sem, hsr]) ?_
            simp only [Act.put, List.setIfInBounds_toArray, List.set_cons_zero, List.set_cons_succ]
            refine wpU_val 11 hKS rfl (by kernel_rfl) (by kernel_rfl) (by kernel_rfl) rfl (fun _ _ _ _ h => h) (.pointer (some ⟨w.heap.size, k, none⟩)) (fun w' h => by simp [go_sem, b5, b6]) ?_
            simp only [Act.put, List.setIfInBounds_toArray, List.set_cons_zero, List.set_cons_succ]
            refine wpU_store_cell 12 rfl (by kernel_rfl) rfl 24 (.tmp 35) (.tmp 30) rfl hX3 k (k := .u64) (n := r) (by simp [go_sem]) (by simp [go_sem]) (by rw [wArr_size]; exact hlt2) (fun w => by simp [go_sem]) ?_
            intro w1 w2 b1 s1 hX4 st2
            refine ⟨trivial, ?_⟩
            simp only [Act.put]
            refine wpU_oneval 13 rfl (by kernel_rfl) rfl (.int .u64 b') (fun w1 b1 s1 => by simp [go_sem]) ?_
            simp only [Act.put, List.setIfInBounds_toArray, List.set_cons_zero, List.set_cons_succ]
            refine wpU_done (by kernel_rfl) ?_
            intro w3 b3 s3
            have hX5 := hX4.after b3
            have hN5 := (st2.box (hN2.drew.after b1) (by simp)).after b3
            have hL5 := (st2.box (hL2.drew.after b1) (by omega)).after b3
            have hB5 := (st2.below w.heap.size w (Nat.le_refl _) (hB2.drew.trans (b1.mono hB2.size))).trans (b3.mono (by rw [st2.size]; exact Nat.le_trans hB2.size b1.size))
            rw [wArr_set, HS'.out] at hX5
            clear b3 s3 hX4 st2 b1 s1 hX3 hKS hX2 hN2 hL2 hB2 gx
            go_wp2_with fail
            exact ⟨⟨k + 1, by omega, by rw [HB'.out], by go_num, hX5, hN5, hL5, hB5⟩, by simp [intOf]; omega⟩
          · simp only [Act.put, List.setIfInBounds_toArray, List.set_cons_zero, List.set_cons_succ]
            refine wpU_val 10 hKS rfl (by kernel_rfl) (by kernel_rfl) (by kernel_rfl) rfl (fun _ _ _ _ h => h) (.int .u64 b') (fun w' h => by simp [go_sem, hsr]) ?_
            simp only [Act.put, List.setIfInBounds_toArray, List.set_cons_zero, List.set_cons_succ]
            refine wpU_oneval 3 rfl (by kernel_rfl) rfl (.int .u64 x) (fun w1 b1 s1 => by simp [go_sem, HV.out _ _ (hX3.after b1)]) ?_
            simp only [Act.put, List.setIfInBounds_toArray, List.set_cons_zero, List.set_cons_succ]
            refine wpU_val 4 hKS rfl (by kernel_rfl) (by kernel_rfl) (by kernel_rfl) rfl (fun _ _ _ _ h => h) (.int .u64 (2 * x % 18446744073709551616 : Nat)) (fun w' h => by simp [go_sem, IntKind.wrap_u64, Int.mul_comm]) ?_
            simp only [Act.put, List.setIfInBounds_toArray, List.set_cons_zero, List.set_cons_succ]
            refine wpU_val 6 hKS rfl (by kernel_rfl) (by kernel_rfl) (by kernel_rfl) rfl (fun _ _ _ _ h => h) (.int .u64 r) (fun w' h => by simp [go_sem]; exact hor) ?_
            simp only [Act.put, List.setIfInBounds_toArray, List.set_cons_zero, List.set_cons_succ]
            refine wpU_val 11 hKS rfl (by kernel_rfl) (by kernel_rfl) (by kernel_rfl) rfl (fun _ _ _ _ h => h) (.pointer (some ⟨w.heap.size, k, none⟩)) (fun w' h => by simp [go_sem, b5, b6]) ?_
            simp only [Act.put, List.setIfInBounds_toArray, List.set_cons_zero, List.set_cons_succ]
            refine wpU_store_cell 12 rfl (by kernel_rfl) rfl 24 (.tmp 35) (.tmp 30) rfl hX3 k (k := .u64) (n := r) (by simp [go_sem]) (by simp [go_sem]) (by rw [wArr_size]; exact hlt2) (fun w => by simp [go_sem]) ?_
            intro w1 w2 b1 s1 hX4 st2
            refine ⟨trivial, ?_⟩
            simp only [Act.put]
            refine wpU_oneval 13 rfl (by kernel_rfl) rfl (.int .u64 b') (fun w1 b1 s1 => by simp [go_sem]) ?_
            simp only [Act.put, List.setIfInBounds_toArray, List.set_cons_zero, List.set_cons_succ]
            refine wpU_done (by kernel_rfl) ?_
            intro w3 b3 s3
            have hX5 := hX4.after b3
            have hN5 := (st2.box (hN2.drew.after b1) (by simp)).after b3
            have hL5 := (st2.box (hL2.drew.after b1) (by omega)).after b3
            have hB5 := (st2.below w.heap.size w (Nat.le_refl _) (hB2.drew.trans (b1.mono hB2.size))).trans (b3.mono (by rw [st2.size]; exact Nat.le_trans hB2.size b1.size))
            rw [wArr_set, HS'.out] at hX5
            clear b3 s3 hX4 st2 b1 s1 hX3 hKS hX2 hN2 hL2 hB2 gx
            go_wp2_with fail
            exact ⟨⟨k + 1, by omega, by rw [HB'.out], by go_num, hX5, hN5, hL5, hB5⟩, by simp [intOf]; omega⟩
        · obtain rfl : k = 4 := by omega
          rw [mx_end] at hX2
          clear hsh hcn
          have hRl := HR.out
          have hsm := step_mod R d LL hRl hd2
          rw [HST'.out] at hsm
          have HLS' := Lib.hid (fun w : World => less_any (2 * R + d) LL w (by have := LL_256; omega) LL_256.1)
          have hwm : wArr (wd (2 * R + d + W256 - LL)) = wArr (wd (if 2 * R + d < LL then 2 * R + d + W256 - LL else 2 * R + d - LL)) := by
            split
            · rfl
            · exact wArr_congr fun j hj => by rw [show 2 * R + d + W256 - LL = (2 * R + d - LL) + W256 by have := LL_256; omega, wd_mod _ _ hj]
          rw [hwm] at HLS'
          clear hwm
          rw [← HLE.out] at HLS'
          obtain ⟨D, hD⟩ : ∃ D, D = wArr (wd (if 2 * R + d < LL then 2 * R + d + W256 - LL else 2 * R + d - LL)) := ⟨_, rfl⟩
          obtain ⟨T, hT⟩ : ∃ T, T = wArr (wd (2 * R + d)) := ⟨_, rfl⟩
          rw [← hD, ← hT] at HLS'
          rw [← hT] at hX2
          have HTS := Lib.hid (show T.size = 4 by rw [hT]; exact wArr_size _)
          have HT1 := Lib.hid (show T.all (·.oneCell') = true by rw [hT]; exact wArr_one _)
          have HDS := Lib.hid (show D.size = 4 by rw [hD]; exact wArr_size _)
          have HD1 := Lib.hid (show D.all (·.oneCell') = true by rw [hD]; exact wArr_one _)
          have key : (if 2 * R + d < LL then T else D) = wArr (wd (rstN A c (i + 1))) := by
            rw [← HRE'.out, ← hsm, hT, hD]
            split <;> rfl
          have HK := Lib.hid key
          clear key hD hT hsm
          obtain ⟨ok, hok⟩ : ∃ ok, ok = decide (2 * R + d < LL) := ⟨_, rfl⟩
          rw [← hok] at HLS'
          have HOK := Lib.hid hok
          clear hok hRl hd2
          go_upto_region 11 with fail
          go_step
          refine wpList_load_box rfl 79 _ rfl hX2 (by rfl) Try.underlying79 rfl (by rw [HTS.out]; kernel_rfl) ?_
          simp only [Act.put, List.setIfInBounds_toArray, List.set_cons_zero, List.set_cons_succ]
          refine wpList_load_box rfl 79 _ rfl hL2 (by rfl) Try.underlying79 rfl (by rw [HLS.out]; kernel_rfl) ?_
          simp only [Act.put, List.setIfInBounds_toArray, List.set_cons_zero, List.set_cons_succ]
          refine wpList_made_call rfl 69 #[.agg T, .agg L] (by simp [go_sem]) _ (HLS'.out _) ?_
          intro v1 bv1
          simp only [Act.put, List.setIfInBounds_toArray, List.set_cons_zero, List.set_cons_succ]
          replace hX2 := hX2.after bv1
          replace hN2 := hN2.after bv1
          replace hL2 := hL2.after bv1
          have hS2 := hL2.lt
          replace hB2 := hB2.trans (bv1.mono hB2.size)
          clear bv1
          refine wpList_value rfl (.tuple #[.agg D, .bool ok]) (by simp [go_sem]) ?_
          simp only [Act.put, List.setIfInBounds_toArray, List.set_cons_zero, List.set_cons_succ]
          refine wpList_value rfl (.agg D) (by simp [go_sem]) ?_
          simp only [Act.put, List.setIfInBounds_toArray, List.set_cons_zero, List.set_cons_succ]
          refine wpList_value rfl (.bool ok) (by simp [go_sem]) ?_
          simp only [Act.put, List.setIfInBounds_toArray, List.set_cons_zero, List.set_cons_succ]
          refine wpList_new rfl 79 rfl #[.int .u64 0, .int .u64 0, .int .u64 0, .int .u64 0] (by intro w; simp [go_sem]) ?_
          intro gD v2 hD2 lD bv2
          simp only [Act.put, List.setIfInBounds_toArray, List.set_cons_zero, List.set_cons_succ]
          replace hX2 := hX2.after bv2
          replace hN2 := hN2.after bv2
          replace hL2 := hL2.after bv2
          have hXlt : w.heap.size < gD := by omega
          have hNlt : w.heap.size + 1 < gD := by omega
          have hLlt : gL < gD := by omega
          replace hB2 := hB2.trans (bv2.mono hB2.size)
          clear bv2 lD hS2
          refine wpList_store_box (cells := D) rfl 79 (.tmp 9) (.tmp 41) rfl hD2 (by rfl) (by rfl) (by rw [HDS.out]; rfl) (by rw [HDS.out]; kernel_rfl) (HD1.out) ?_
          intro v3 hD3 st3
          simp only [Act.put]
          replace hX2 := st3.box hX2 (by omega)
          replace hN2 := st3.box hN2 (by omega)
          replace hL2 := st3.box hL2 (by omega)
          replace hB2 := st3.below w.heap.size w (by omega) hB2
          clear st3 hD2
          refine wpList_value rfl (.bool ok) (by simp [go_sem]) ?_
          simp only [Act.put, List.setIfInBounds_toArray, List.set_cons_zero, List.set_cons_succ]
          cases ok with
          | true =>
            go_wp2_with fail
            refine ⟨⟨i + 1, by omega, by go_num, ?_, hN2, hL2, hB2⟩, by simp [intOf]; omega⟩
            rw [← HK.out, if_pos (by simpa using HOK.out.symm)]
            exact hX2
          | false =>
            go_upto_region 13 with fail
            go_step
            refine wpList_load_box rfl 79 _ rfl hD3 (by rfl) Try.underlying79 rfl (by rw [HDS.out]; kernel_rfl) ?_
            simp only [Act.put, List.setIfInBounds_toArray, List.set_cons_zero, List.set_cons_succ]
            refine wpList_store_box (cells := D) rfl 79 _ _ rfl hX2 (by rfl) (by rfl) (by rw [HDS.out, HTS.out]) (by rw [HDS.out]; kernel_rfl) (HD1.out) ?_
            intro v4 hX4 st4
            simp only [Act.put]
            replace hN2 := st4.box hN2 (by omega)
            replace hL2 := st4.box hL2 (by omega)
            replace hB2 := st4.below w.heap.size w (Nat.le_refl _) hB2
            clear st4 hX2 hD3
            go_wp2_with fail
            refine ⟨⟨i + 1, by omega, by go_num, ?_, hN2, hL2, hB2⟩, by simp [intOf]; omega⟩
            rw [← HK.out, if_neg (by simpa using HOK.out.symm)]
            exact hX4
    · obtain rfl : i = 8 := by omega
      rw [show wArr (wd (rstN A c 8)) = G from HG.out.symm] at hX
      go_upto_region 15 with fail
      go_step
      refine wpList_load_box rfl 79 _ rfl hX (by rfl) Try.underlying79 rfl (by rw [HGS.out]; kernel_rfl) ?_
      simp only [Act.put, List.setIfInBounds_toArray, List.set_cons_zero, List.set_cons_succ]
      refine wpList_store_box rfl 79 _ _ rfl hN (by rfl) (by rfl) (by rw [HNS.out, HGS.out]) (by rw [HGS.out]; kernel_rfl) HG1.out ?_
      intro w4 hR4 hst
      have hB4 := hst.below w.heap.size w (by omega) hB
      simp only [Act.put]
      clear hst hX hN hL hB
      go_wp2_with fail
      exact bodyPost_ret (v := .agg G) (box_result rfl _ _ (by rfl) hR4 Try.underlying79 rfl (by rw [HGS.out]; kernel_rfl)) rfl ⟨rfl, hB4⟩
end Go.Proofs.Ytpkoniebbkkmjaa

/- scalar: the document's Rest: what it computes. -/
import Derived.Test.YtpkoniebbkkmjaaScR2Mg
import Derived.Deep.RegionHeld3
namespace Go.Proofs.Ytpkoniebbkkmjaa
open Go.RowKit

/-- the rest, j bits of a digit on -/
def rsN (A d j : Nat) : Nat := (A * 2 ^ j + d / 2 ^ (16 - j)) % LL
theorem rsN_lt (A d j : Nat) : rsN A d j < LL := Nat.mod_lt _ (by unfold LL; omega)
theorem digs_LL17 : digs LL 16 ++ [0] = digs LL 17 := by decide +kernel
theorem LL_small : LL < 65536 ^ 17 ∧ 2 * LL < 65536 ^ 17 := by unfold LL; decide
theorem digs_zero : List.replicate 17 0 = digs 0 17 := by decide +kernel
theorem Su.cell {w : World} {a : Option Addr} {n c N : Nat} (h : Su w a n c (digs N n)) (hn : n ≠ 0) : ∃ b o, a = some ⟨b, o, none⟩ ∧ ∀ i, i < n → w.cell? ⟨b, o + i, none⟩ = some (.int .u64 (dig N i : Nat)) := by
  obtain ⟨b, o, rfl, hc⟩ := h.2.2.2.2.resolve_left hn
  exact ⟨b, o, rfl, fun i hi => by rw [hc i hi, digs_get _ _ _ hi]⟩
theorem pow_bit (j : Nat) (h : j < 16) : ∃ K K', K = 32768 / 2 ^ j ∧ K = 2 ^ (16 - 1 - j) ∧ K' = 32768 / 2 ^ (j + 1) ∧ K' = K / 2 ∧ 0 < K ∧ K ≤ 32768 := by
  have key : ∀ j, j < 16 → 32768 / 2 ^ j = 2 ^ (16 - 1 - j) ∧ 32768 / 2 ^ (j + 1) = 32768 / 2 ^ j / 2 ∧ 0 < 32768 / 2 ^ j ∧ 32768 / 2 ^ j ≤ 32768 := by decide
  obtain ⟨k1, k2, k3, k4⟩ := key j h
  exact ⟨_, _, rfl, k1, rfl, k2, k3, k4⟩

set_option maxRecDepth 100000 in
set_option maxHeartbeats 20000000 in
theorem refRest_any (a : Option Addr) (n c : Nat) (l : List Nat) (w : World) (hn1 : n < 100000) (hl : ∀ i, l.getD i 0 < 65536) (h : Su w a n c l) :
    Calls Try.prog 70 #[.slice a n c] w (RetSl (leBytes (dNs l % LL) 32) w) := by
  have hln := h.1
  have hcap := h.2.1
  have HL := Lib.hid hl
  have HLN := Lib.hid hln
  have hdr : dNs (l.drop n) = 0 := by rw [hln, List.drop_length]; rfl
  have HDR := Lib.hid hdr
  clear hl hln hdr
  unfold RetSl
  go_enter Try.func70, Try.ntmps70
  go_upto_region 1 with fail
  go_step
  refine wpList_enterR rfl 73 #[] (by simp [go_sem]) _ (refOrder_any _) ?_
  rintro e w1 ⟨v1, rfl, hown1, hb1⟩
  refine ⟨_, rfl, ?_⟩
  simp only [Act.put, List.setIfInBounds_toArray, List.set_cons_zero, List.set_cons_succ]
  rw [digs_len] at hown1
  refine wpList_put1 rfl 0 (fun w => by simp [go_sem]) (fun _ => rfl) (.tmp 13) (.tmp 14) rfl w.heap.size _ 16 _ (fun _ => rfl) (fun _ => rfl) hown1 (by omega) (by have := hb1.size; omega) ?_
  intro p2 v2 w2 hown2 hb2
  simp only [Act.put, List.setIfInBounds_toArray, List.set_cons_zero, List.set_cons_succ]
  refine wpList_value rfl (v2) (by simp [go_sem]) ?_
  simp only [Act.put, List.setIfInBounds_toArray, List.set_cons_zero, List.set_cons_succ]
  rw [digs_LL17] at hown2
  obtain ⟨La, Lc, rfl, hSl⟩ := Su.ofOwns (n := 17) hown2
  have hB2 := hb1.trans hb2
  have hSd := h.after hB2
  clear hown1 hb1 hown2 hb2 h
  go_upto_region 2 with fail
  go_step
  refine wpList_zeros rfl (.const (.int .i64 17)) (.const (.int .i64 17)) rfl 17 rfl rfl (by omega) ?_
  intro r0 W1 hz1 hrg hbz
  simp only [Act.put, List.setIfInBounds_toArray, List.set_cons_zero, List.set_cons_succ]
  rw [digs_zero] at hz1
  have hr0 := su_box hz1 (by rw [digs_len]; unfold maxLen; omega)
  rw [digs_len] at hr0
  have hSl0 := hSl.after hbz
  have hSd0 := hSd.after hbz
  have hB0 := hB2.trans (hbz.mono hB2.size)
  clear hSl hSd hB2 hz1 hrg hbz
  have w0 : IntKind.i64.wrap ((n : Int) - 1) = (n : Int) - 1 := by rw [IntKind.wrap_i64]; omega
  go_wp2_with fail
  go_loopw [4, 5] (fun rv i wr => ∃ q : Nat, q ≤ n ∧ i = .int .i64 ((q : Int) - 1) ∧ ∃ ra rc, rv = .slice ra 17 rc ∧ Su wr ra 17 rc (digs (dNs (l.drop q) % LL) 17) ∧ Below W1.heap.size W1 wr) (fun _ i _ => (intOf i + 1).toNat)
  case atStart => exact ⟨n, Nat.le_refl _, rfl, some ⟨r0, 0, none⟩, 17, rfl, by rw [HDR.out, Nat.zero_mod]; exact hr0, Below.refl _ _⟩
  case round =>
    obtain ⟨wa, rfl⟩ : ∃ wa : World, wa = wr := ⟨_, rfl⟩
    obtain ⟨q, hq, rfl, ra, rc, rfl, hR, hB⟩ := hrel
    clear hr0
    cases q with
    | succ p =>
      have hp : p < n := by omega
      have hd := HL.out p
      have hsd := hSd0.after hB
      obtain ⟨db, dof, rfl, hdc⟩ := hsd.2.2.2.2.resolve_left (by omega)
      have g1 := hdc p hp
      have e1 : (((p + 1 : Nat) : Int) - 1) = (p : Int) := by omega
      rw [e1]
      have HST : Hid (dNs (l.drop p) % LL = (65536 * (dNs (l.drop (p + 1)) % LL) + l.getD p 0) % LL) := Lib.hid (by
        rw [dNs_drop l p (by have := HLN.out; omega), mod_step, Nat.add_comm])
      have hA : dNs (l.drop (p + 1)) % LL < LL := Nat.mod_lt _ (by unfold LL; omega)
      obtain ⟨A, hAe⟩ : ∃ A, A = dNs (l.drop (p + 1)) % LL := ⟨_, rfl⟩
      obtain ⟨d, hde⟩ : ∃ d, d = l.getD p 0 := ⟨_, rfl⟩
      rw [← hAe] at hR HST hA
      rw [← hde] at hd g1 HST
      have HS0 := Lib.hid (digit_start A d LL hd hA)
      have HE0 := Lib.hid (digit_end A d LL)
      have b1 : (0 : Int) ≤ (p : Int) := by omega
      have b2 : (p : Int) < (n : Int) := by omega
      have w1 : IntKind.i64.wrap ((p : Int) - 1) = (p : Int) - 1 := by rw [IntKind.wrap_i64]; omega
      have hdlt := cell_lt g1
      have HDE := Lib.hid hde
      clear hAe hde hdc hsd hA e1
      go_wp2_with fail
      go_loopw [4, 6] (fun rv kv wr => ∃ j : Nat, j ≤ 16 ∧ kv = .int .u64 ((32768 / 2 ^ j : Nat) : Int) ∧ ∃ ra rc, rv = .slice ra 17 rc ∧ Su wr ra 17 rc (digs (rsN A d j) 17) ∧ Below W1.heap.size W1 wr) (fun _ k _ => (intOf k).toNat)
      case atStart => exact ⟨0, by omega, rfl, ra, rc, rfl, by rw [show rsN A d 0 = A from HS0.out]; exact hR, hB⟩
      case round =>
        obtain ⟨wb, rfl⟩ : ∃ wb : World, wb = wr := ⟨_, rfl⟩
        obtain ⟨j, hj, rfl, ra', rc', rfl, hR2, hB2⟩ := hrel
        clear hR hB g1 hdlt
        by_cases hlt : j < 16
        · obtain ⟨K, K', hK1, hK2, hK3, hK4, hK5, hK6⟩ := pow_bit j hlt
          have hst := bit_step 16 A d j LL hlt
          change (2 * rsN A d j + d / 2 ^ (16 - 1 - j) % 2) % LL = rsN A d (j + 1) at hst
          rw [← hK2] at hst
          rw [← hK1]
          have hRl := rsN_lt A d j
          obtain ⟨_, _, eb, hdc⟩ := (hSd0.after hB2).2.2.2.2.resolve_left (by omega)
          cases eb
          have g1 := hdc p hp
          rw [← HDE.out] at g1
          clear hdc
          obtain ⟨R, hRe⟩ : ∃ R, R = rsN A d j := ⟨_, rfl⟩
          obtain ⟨e, he⟩ : ∃ e, e = d / K := ⟨_, rfl⟩
          obtain ⟨c0, hc0⟩ : ∃ c0, c0 = e % 2 := ⟨_, rfl⟩
          rw [← hRe] at hst hRl hR2
          rw [← he, ← hc0] at hst
          have hel : e ≤ d := by rw [he]; exact Nat.div_le_self _ _
          have q1 : (d : Int) / (K : Int) = (e : Int) := by rw [he]; simp
          have q1' : (d : Int).tdiv (K : Int) = (e : Int) := by rw [Int.tdiv_eq_ediv_of_nonneg (by omega)]; exact q1
          have q2 : (e : Int) % 2 = (c0 : Int) := by omega
          have q2' : (e : Int).tmod 2 = (c0 : Int) := by rw [Int.tmod_eq_emod_of_nonneg (by omega)]; exact q2
          have k1 := u64w d (by omega)
          have k2 := u64w e (by omega)
          have k3 := u64w c0 (by omega)
          have k4 := u64w K (by omega)
          have hc02 : c0 < 2 := by omega
          have hKne : ¬ (K : Int) = 0 := by omega
          have hKpos : 0 < (K : Int) := by omega
          have hKp : 0 < K := hK5
          have HK3 := Lib.hid hK3
          have hk4 : (K : Int) / 2 = (K' : Int) := by omega
          have hKK : K' < K := by omega
          have k5 := u64w K' (by omega)
          have HST2 := Lib.hid hst
          have HT : Hid (2 * R + c0 < 65536 ^ 17) := Lib.hid (by have := LL_small; omega)
          have HSM := Lib.hid (step_mod R c0 LL hRl hc02)
          clear hRe he hc0 hst hK1 hK2 hK3 hK4 hK5
          obtain ⟨rb, rof, rfl, hrc⟩ := hR2.cell (by omega)
          have hrcap := hR2.2.1
          have hown0 : (wb.alloc (.cells #[] 24)).ownsRow wb.heap.size 24 1 (.slice (some ⟨wb.heap.size, 0, none⟩) 0 0) 0 (uCells (digs (2 * R + c0) 0)) :=
            World.ownsRow_lit (base := wb.heap.size) (size := 1) (e := 24) wb #[] 0 (Nat.le_refl _) (Nat.zero_le _) rfl
          have hbn : Below wb.heap.size wb (wb.alloc (.cells #[] 24)) := (Below.refl _ _).alloc (Nat.le_refl _) _
          go_wp2_with fail
          go_loopw [7, 8, 38] (fun cv nv iv wr => ∃ m : Nat, m ≤ 17 ∧ iv = .int .i64 m ∧ cv = .int .u64 (carD R c0 m : Nat) ∧ wr.ownsRow wb.heap.size 24 1 nv m (uCells (digs (2 * R + c0) m)) ∧ Below wb.heap.size wb wr) (fun _ _ i _ => 17 - (intOf i).toNat)
          case atStart => exact ⟨0, Nat.zero_le _, rfl, by rw [carD_zero], hown0, hbn⟩
          case round =>
            obtain ⟨wc, rfl⟩ : ∃ wc : World, wc = wr := ⟨_, rfl⟩
            obtain ⟨m, hm, rfl, rfl, hown, hB3⟩ := hrel
            clear hown0 hbn g1
            by_cases hlt3 : m < 17
            · have gr := (hB3.cell (p := ⟨rb, rof + m, none⟩) (cell_lt (hrc m hlt3))).trans (hrc m hlt3)
              obtain ⟨t1, t2⟩ := dbl_digit R c0 m
              have t3 := dig_lt R m
              have t4 := carD_lt R c0 m hc02
              have t5 := carD_lt R c0 (m + 1) hc02
              have HS := Lib.hid (digs_succ (2 * R + c0) m)
              obtain ⟨x, hx⟩ : ∃ x, x = dig R m := ⟨_, rfl⟩
              obtain ⟨c1, hc1⟩ : ∃ c1, c1 = carD R c0 m := ⟨_, rfl⟩
              obtain ⟨c2, hc2⟩ : ∃ c2, c2 = carD R c0 (m + 1) := ⟨_, rfl⟩
              obtain ⟨y, hy⟩ : ∃ y, y = dig (2 * R + c0) m := ⟨_, rfl⟩
              rw [← hx] at gr t1 t2 t3
              rw [← hc1] at t1 t2 t4 ⊢
              rw [← hc2] at t2 t5
              rw [← hy] at t1 HS
              have HC2 := Lib.hid hc2
              obtain ⟨s1, hs1⟩ : ∃ s1, s1 = 2 * x := ⟨_, rfl⟩
              obtain ⟨s2, hs2⟩ : ∃ s2, s2 = s1 + c1 := ⟨_, rfl⟩
              have n1 : 2 * (x : Int) = (s1 : Int) := by omega
              have n2 : (s1 : Int) + (c1 : Int) = (s2 : Int) := by omega
              have n3 : (s2 : Int) % 65536 = (y : Int) := by omega
              have n3' : (s2 : Int).tmod 65536 = (y : Int) := by rw [Int.tmod_eq_emod_of_nonneg (by omega)]; exact n3
              have n4 : (s2 : Int) / 65536 = (c2 : Int) := by omega
              have l1 := u64w s1 (by omega)
              have l2 := u64w s2 (by omega)
              have l3 := u64w y (by omega)
              have l4 := u64w c2 (by omega)
              have hs2b : s2 < 200000 := by omega
              clear t1 t2 hx hc1 hc2 hy hs1 hs2
              have b3 : (0 : Int) ≤ (m : Int) := by omega
              have b4 : (m : Int) < 17 := by omega
              go_upto_region 15 with fail
              go_step
              refine wpList_value rfl (_) (by simp [go_sem]; rfl) ?_
              simp only [Act.put, List.setIfInBounds_toArray, List.set_cons_zero, List.set_cons_succ]
              refine wpList_value rfl (.int .u64 s2) (by simp [go_sem]) ?_
              simp only [Act.put, List.setIfInBounds_toArray, List.set_cons_zero, List.set_cons_succ]
              refine wpList_value rfl (.int .u64 y) (by simp [go_sem, n3']) ?_
              simp only [Act.put, List.setIfInBounds_toArray, List.set_cons_zero, List.set_cons_succ]
              refine wpList_put1 rfl y (fun w => by simp [go_sem]) (fun _ => rfl) (.tmp 48) (.tmp 51) rfl wb.heap.size _ _ _ (fun _ => rfl) (fun _ => rfl) hown (by omega) (hB3.size) ?_
              intro p1 v1 w1 hown1 hb1
              simp only [Act.put, List.setIfInBounds_toArray, List.set_cons_zero, List.set_cons_succ]
              refine wpList_value rfl (v1) (by simp [go_sem]) ?_
              simp only [Act.put, List.setIfInBounds_toArray, List.set_cons_zero, List.set_cons_succ]
              have hBw := hB3.trans hb1
              clear hB3 hb1 hown gr b3 b4
              go_wp2_with fail
              exact ⟨⟨m + 1, by omega, by go_num, by rw [HC2.out], by rw [HS.out]; exact hown1, hBw⟩, by simp [intOf]; omega⟩
            · obtain rfl : m = 17 := by omega
              obtain ⟨na, nc, rfl, hN⟩ := Su.ofOwns hown
              have hBc := hB2.trans (hB3.mono hB2.size)
              have hLc := hSl0.after hBc
              clear hrc hown
              have hbel := Lib.hid (fun w h h' => refBelow_any na La 17 nc Lc (2 * R + c0) LL w (by omega) HT.out LL_small.1 h h')
              obtain ⟨t, ht⟩ : ∃ t, t = decide (2 * R + c0 < LL) := ⟨_, rfl⟩
              rw [← ht] at hbel
              have HTE := Lib.hid ht
              clear ht
              go_upto_region 19 with fail
              go_step
              refine wpList_value rfl (.slice na 17 nc) (by simp [go_sem]) ?_
              simp only [Act.put, List.setIfInBounds_toArray, List.set_cons_zero, List.set_cons_succ]
              refine wpList_value rfl (.slice La 17 Lc) (by simp [go_sem]) ?_
              simp only [Act.put, List.setIfInBounds_toArray, List.set_cons_zero, List.set_cons_succ]
              refine wpList_made_call rfl 74 #[.slice na 17 nc, .slice La 17 Lc] (by simp [go_sem]) _ (hbel.out _ hN hLc) ?_
              intro w4 b4
              simp only [Act.put, List.setIfInBounds_toArray, List.set_cons_zero, List.set_cons_succ]
              replace hN := hN.after b4
              replace hLc := hLc.after b4
              replace hBc := hBc.trans (b4.mono hBc.size)
              clear b4 hB3
              refine wpList_value rfl (.bool (!t)) (by simp [go_sem]) ?_
              simp only [Act.put, List.setIfInBounds_toArray, List.set_cons_zero, List.set_cons_succ]
              cases t with
              | true =>
                have hlt4 : 2 * R + c0 < LL := by simpa using HTE.out.symm
                have hsm := HSM.out
                rw [if_pos hlt4, HST2.out] at hsm
                rw [hsm] at hN
                have HSM2 := Lib.hid hsm
                clear hsm hlt4
                go_wp2_with fail
                exact ⟨⟨j + 1, by omega, by rw [← HK3.out], na, nc, rfl, hN, hBc⟩, by simp [intOf]; omega⟩
              | false =>
                have hlt4 : ¬ 2 * R + c0 < LL := by simpa using HTE.out.symm
                have hsm := HSM.out
                rw [if_neg hlt4, HST2.out] at hsm
                have hoff := Lib.hid (fun w h h' => refOff_any na La 17 nc Lc LL (2 * R + c0 - LL) w (by omega) (by omega) h h')
                rw [show LL + (2 * R + c0 - LL) = 2 * R + c0 by omega, hsm] at hoff
                clear hsm hlt4
                go_upto_region 20 with fail
                go_step
                refine wpList_value rfl (.slice na 17 nc) (by simp [go_sem]) ?_
                simp only [Act.put, List.setIfInBounds_toArray, List.set_cons_zero, List.set_cons_succ]
                refine wpList_value rfl (.slice La 17 Lc) (by simp [go_sem]) ?_
                simp only [Act.put, List.setIfInBounds_toArray, List.set_cons_zero, List.set_cons_succ]
                refine wpList_enterR rfl 75 #[.slice na 17 nc, .slice La 17 Lc] (by simp [go_sem]) _ (hoff.out _ hN hLc) ?_
                rintro e w5 ⟨v5, rfl, hown5, hb5⟩
                refine ⟨_, rfl, ?_⟩
                simp only [Act.put, List.setIfInBounds_toArray, List.set_cons_zero, List.set_cons_succ]
                rw [digs_len] at hown5
                obtain ⟨xa, xc, rfl, hX⟩ := Su.ofOwns hown5
                have hBx := hBc.trans (hb5.mono hBc.size)
                clear hown5 hb5 hN hLc hBc
                refine wpList_value rfl (.slice xa 17 xc) (by simp [go_sem]) ?_
                simp only [Act.put, List.setIfInBounds_toArray, List.set_cons_zero, List.set_cons_succ]
                go_wp2_with fail
                exact ⟨⟨j + 1, by omega, by rw [← HK3.out], xa, xc, rfl, hX, hBx⟩, by simp [intOf]; omega⟩
        · obtain rfl : j = 16 := by omega
          rw [show rsN A d 16 = dNs (l.drop p) % LL by rw [HST.out]; exact HE0.out] at hR2
          rw [show ((32768 / 2 ^ 16 : Nat) : Int) = 0 by decide]
          go_wp2_with fail
          exact ⟨⟨p, by omega, by go_num, ra', rc', rfl, hR2, hB2⟩, by simp [intOf]⟩
    | zero =>
      rw [List.drop_zero] at hR
      obtain ⟨R, hRe⟩ : ∃ R, R = dNs l % LL := ⟨_, rfl⟩
      rw [← hRe] at hR
      have HRE := Lib.hid hRe
      clear hRe
      clear hSl0 hSd0
      obtain ⟨rb, rof, rfl, hrc⟩ := hR.cell (by omega)
      have hrcap := hR.2.1
      have hB1 := hB0.trans (hB.mono hB0.size)
      clear hR hB hB0
      obtain ⟨i0, hi, hz0, hz1, hz2⟩ := info_parts infoU8
      have hown0 : (wa.alloc (.cells #[] 5)).ownsRow wa.heap.size 5 1 (.slice (some ⟨wa.heap.size, 0, none⟩) 0 0) 0 (Lib.byteCells (leBytes R (2 * 0))) :=
        World.ownsRow_lit (base := wa.heap.size) (size := 1) (e := 5) wa #[] 0 (Nat.le_refl _) (Nat.zero_le _) rfl
      have hbn : Below wa.heap.size wa (wa.alloc (.cells #[] 5)) := (Below.refl _ _).alloc (Nat.le_refl _) _
      go_wp2_with fail
      go_loopw [11, 12] (fun out i wr => ∃ k : Nat, k ≤ 16 ∧ i = .int .i64 k ∧ wr.ownsRow wa.heap.size 5 1 out (2 * k) (Lib.byteCells (leBytes R (2 * k))) ∧ Below wa.heap.size wa wr) (fun _ i _ => 16 - (intOf i).toNat)
      case atStart => exact ⟨0, Nat.zero_le _, rfl, hown0, hbn⟩
      case round =>
        obtain ⟨wb, rfl⟩ : ∃ wb : World, wb = wr := ⟨_, rfl⟩
        obtain ⟨k, hk, rfl, hown, hB2⟩ := hrel
        clear hown0 hbn
        by_cases hlt : k < 16
        · have HE := Lib.hid (leBytes_two R k)
          have hl := dig_lt R k
          have hC := hrc k (by omega)
          obtain ⟨x, hx⟩ : ∃ x, x = dig R k := ⟨_, rfl⟩
          rw [← hx] at hl hC HE
          have hcl := cell_lt hC
          clear hx hrc
          have e1 : (x : Int) % 256 = ((UInt8.ofNat (x % 256)).toNat : Int) := by simp
          have e2 : (x : Int) / 256 = ((UInt8.ofNat (x / 256)).toNat : Int) := by simp; omega
          have l1 := (UInt8.ofNat (x % 256)).toNat_lt
          have l2 := (UInt8.ofNat (x / 256)).toNat_lt
          obtain ⟨c, hc⟩ : ∃ c, c = UInt8.ofNat (x % 256) := ⟨_, rfl⟩
          obtain ⟨d, hd⟩ : ∃ d, d = UInt8.ofNat (x / 256) := ⟨_, rfl⟩
          rw [← hc] at e1 l1 HE
          rw [← hd] at e2 l2 HE
          have e3 : IntKind.u8.wrap (c.toNat : Int) = (c.toNat : Int) := by rw [IntKind.wrap_u8]; omega
          have e4 : IntKind.u8.wrap (d.toNat : Int) = (d.toNat : Int) := by rw [IntKind.wrap_u8]; omega
          have e5 : IntKind.u64.wrap (d.toNat : Int) = (d.toNat : Int) := by rw [IntKind.wrap_u64]; omega
          have b5 : (0 : Int) ≤ (k : Int) := by omega
          have b6 : (k : Int) < 17 := by omega
          have e1' : (x : Int).tmod 256 = (c.toNat : Int) := by rw [Int.tmod_eq_emod_of_nonneg (by omega)]; exact e1
          have e2' : (x : Int).tdiv 256 = (d.toNat : Int) := by rw [Int.tdiv_eq_ediv_of_nonneg (by omega)]; exact e2
          clear hc hd
          have hcell : ∀ w', Below wa.heap.size wa w' → w'.cell? ⟨rb, rof + k, none⟩ = some (.int .u64 x) := fun w' h => (h.cell (p := ⟨rb, rof + k, none⟩) hcl).trans hC
          go_upto_region 25 with fail
          refine wp_region_held_drew (S := fun w' => Below wa.heap.size wa w') rfl hB2.drew (fun _ => ?_)
          refine wpH_take 0 rfl (by kernel_rfl) (by kernel_rfl) (by kernel_rfl) rfl (fun _ _ _ _ h => h) (u11) (fun w' h => by simp [go_sem]) hB2.drew ?_
          refine wpH_take 1 rfl (by kernel_rfl) (by kernel_rfl) (by kernel_rfl) rfl (fun _ _ _ _ h => h) (.slice (some ⟨rb, rof, none⟩) 17 rc) (fun w' h => by simp [go_sem, Act.put]) hB2.drew ?_
          refine wpH_take 2 rfl (by kernel_rfl) (by kernel_rfl) (by kernel_rfl) rfl (fun _ _ _ _ h => h) (.int .i64 k) (fun w' h => by simp [go_sem, Act.put]) hB2.drew ?_
          refine wpH_take 3 rfl (by kernel_rfl) (by kernel_rfl) (by kernel_rfl) rfl (fun _ _ _ _ h => h) (.pointer (some ⟨rb, rof + k, none⟩)) (fun w' h => by simp [go_sem, Act.put, b5, b6, Addr.add]) hB2.drew ?_
          refine wpH_take 4 rfl (by kernel_rfl) (by kernel_rfl) (by kernel_rfl) rfl (fun _ _ _ _ h => h) (.int .u64 x) (fun w' h => by simp [go_sem, Act.put, hcell w' h]) hB2.drew ?_
          refine wpH_take 5 rfl (by kernel_rfl) (by kernel_rfl) (by kernel_rfl) rfl (fun _ _ _ _ h => h) (.int .u64 (c.toNat : Int)) (fun w' h => by simp [go_sem, Act.put, e1']) hB2.drew ?_
          refine wpH_take 6 rfl (by kernel_rfl) (by kernel_rfl) (by kernel_rfl) rfl (fun _ _ _ _ h => h) (.int .u8 (c.toNat : Int)) (fun w' h => by simp [go_sem, Act.put, e3]) hB2.drew ?_
          refine wpH_take 7 rfl (by kernel_rfl) (by kernel_rfl) (by kernel_rfl) rfl (fun _ _ _ _ h => h) (.slice (some ⟨rb, rof, none⟩) 17 rc) (fun w' h => by simp [go_sem, Act.put]) hB2.drew ?_
          refine wpH_take 8 rfl (by kernel_rfl) (by kernel_rfl) (by kernel_rfl) rfl (fun _ _ _ _ h => h) (.int .i64 k) (fun w' h => by simp [go_sem, Act.put]) hB2.drew ?_
          refine wpH_take 9 rfl (by kernel_rfl) (by kernel_rfl) (by kernel_rfl) rfl (fun _ _ _ _ h => h) (.pointer (some ⟨rb, rof + k, none⟩)) (fun w' h => by simp [go_sem, Act.put, b5, b6, Addr.add]) hB2.drew ?_
          refine wpH_take 10 rfl (by kernel_rfl) (by kernel_rfl) (by kernel_rfl) rfl (fun _ _ _ _ h => h) (.int .u64 x) (fun w' h => by simp [go_sem, Act.put, hcell w' h]) hB2.drew ?_
          refine wpH_take 11 rfl (by kernel_rfl) (by kernel_rfl) (by kernel_rfl) rfl (fun _ _ _ _ h => h) (.int .u64 (d.toNat : Int)) (fun w' h => by simp [go_sem, Act.put, e2', e5]) hB2.drew ?_
          refine wpH_take 12 rfl (by kernel_rfl) (by kernel_rfl) (by kernel_rfl) rfl (fun _ _ _ _ h => h) (.int .u8 (d.toNat : Int)) (fun w' h => by simp [go_sem, Act.put, e4]) hB2.drew ?_
          have hBn : Below wa.heap.size wa (wb.drew.alloc (.cells #[.int .u8 (c.toNat : Int), .int .u8 (d.toNat : Int)] 5)) := hB2.drew.alloc (by have := hB2.size; simp; omega) _
          refine wpH_run 13 rfl (by kernel_rfl) rfl (.slice (some ⟨wb.heap.size, 0, none⟩) 2 2) (wb.drew.alloc (.cells #[.int .u8 (c.toNat : Int), .int .u8 (d.toNat : Int)] 5)) (by simp [go_sem, Act.put]) hBn ?_
          have hct := cellTwo wb.drew (.int .u8 (c.toNat : Int)) (.int .u8 (d.toNat : Int)) wb.heap.size rfl
          refine wpH_append_sl 14 rfl (by kernel_rfl) rfl (.tmp 69) (.tmp 82) 22 rfl wa.heap.size 5 i0 Try.underlying22 hi hz0 hz1 hz2 u11 (2 * k) (leBytes R (2 * k)) (by simp [go_sem, Act.put]) (hown.drew.alloc _) (some ⟨wb.heap.size, 0, none⟩) 2 2 [c, d] (by simp [go_sem, Act.put]) (slTwo _ _ _ _ hct.1 hct.2) (by omega) (by have := hB2.size; simp; omega) ?_
          intro v1 w1 hown1 hg1
          have hB3 : Below wa.heap.size wa w1 := hBn.grown hg1 (by have := hB2.size; simp; omega) (fun j hj => (hown.lt j hj).1)
          refine ⟨hB3, ?_⟩
          refine wpH_take 15 rfl (by kernel_rfl) (by kernel_rfl) (by kernel_rfl) rfl (fun _ _ _ _ h => h) v1 (fun w' h => by simp [go_sem, Act.put]) hB3 ?_
          refine wpAnyH_done (by kernel_rfl) ?_ _
          simp only [Act.put, List.setIfInBounds_toArray, List.set_cons_zero, List.set_cons_succ]
          rw [← HE.out] at hown1
          clear hBn hct hg1 hown hcell hB2
          go_wp2_with fail
          refine ⟨⟨k + 1, by omega, by go_num, hown1, hB3⟩, by simp [intOf]; omega⟩
        · obtain rfl : k = 16 := by omega
          obtain ⟨a1, c1, rfl, hS⟩ := Sl.ofOwns hown
          have hBw : Below w.heap.size w wb := hB1.trans (hB2.mono hB1.size)
          clear hB1 hB2 hrc
          go_wp2_with fail
          go_ret
          exact ⟨a1, c1, by rw [leBytes_len]; rfl, by rw [leBytes_len, ← HRE.out]; exact hS, hBw⟩
end Go.Proofs.Ytpkoniebbkkmjaa

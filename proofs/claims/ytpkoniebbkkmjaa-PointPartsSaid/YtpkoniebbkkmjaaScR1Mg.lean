/- scalar: the document's below, off, order: what they compute. -/
import Derived.Test.YtpkoniebbkkmjaaSuMg
namespace Go.Proofs.Ytpkoniebbkkmjaa
open Go.RowKit

set_option maxRecDepth 100000 in
set_option maxHeartbeats 4000000 in
theorem refBelow_any (a a' : Option Addr) (n c c' A B : Nat) (w : World) (hn0 : n ≠ 0) (hA : A < 65536 ^ n) (hB' : B < 65536 ^ n) (h : Su w a n c (digs A n)) (h' : Su w a' n c' (digs B n)) :
    Calls Try.prog 74 #[.slice a n c, .slice a' n c'] w fun e w' => e = .returned (.bool (decide (A < B))) ∧ Below w.heap.size w w' := by
  obtain ⟨b, o, rfl, hc⟩ := h.2.2.2.2.resolve_left hn0
  obtain ⟨b', o', rfl, hc'⟩ := h'.2.2.2.2.resolve_left hn0
  have hml := h.2.2.1
  have hcap := h.2.1
  have hb := cell_lt (hc 0 (by omega))
  have hb' := cell_lt (hc' 0 (by omega))
  have hnb : (n : Int) ≤ 9223372036854775807 := by unfold maxLen at hml; omega
  have h0 : A / 65536 ^ n = B / 65536 ^ n := by rw [Nat.div_eq_of_lt hA, Nat.div_eq_of_lt hB']
  clear h h' hml hA hB'
  have w0 : IntKind.i64.wrap ((n : Int) - 1) = (n : Int) - 1 := by rw [IntKind.wrap_i64]; omega
  go_enter Try.func74, Try.ntmps74
  go_wp2_with fail
  go_loopw [5] (fun i wr => ∃ q : Nat, q ≤ n ∧ i = .int .i64 ((q : Int) - 1) ∧ A / 65536 ^ q = B / 65536 ^ q ∧ Below w.heap.size w wr) (fun i _ => (intOf i + 1).toNat)
  case atStart => exact ⟨n, Nat.le_refl _, rfl, h0, Below.refl _ _⟩
  case round =>
    obtain ⟨wa, rfl⟩ : ∃ wa : World, wa = wr := ⟨_, rfl⟩
    obtain ⟨q, hq, rfl, ht, hB⟩ := hrel
    clear h0
    cases q with
    | zero =>
      have hd : decide (A < B) = false := by
        simp only [Nat.pow_zero, Nat.div_one] at ht
        simp [ht]
      have HD := Lib.hid hd
      clear hd ht
      go_wp2_with fail
      go_ret
      exact ⟨by rw [HD.out]; rfl, hB⟩
    | succ p =>
      have hpn : p < n := by omega
      have g1 := (hB.cell (p := ⟨b, o + p, none⟩) hb).trans (hc p hpn)
      have g2 := (hB.cell (p := ⟨b', o' + p, none⟩) hb').trans (hc' p hpn)
      rw [digs_get _ _ _ hpn] at g1 g2
      obtain ⟨c1, c2⟩ := dig_cmp A B p ht
      have u1 := dig_lt A p
      have u2 := dig_lt B p
      obtain ⟨u, hu⟩ : ∃ u, u = dig A p := ⟨_, rfl⟩
      obtain ⟨v, hv⟩ : ∃ v, v = dig B p := ⟨_, rfl⟩
      rw [← hu] at g1 u1 c1 c2
      rw [← hv] at g2 u2 c1 c2
      have HC1 := Lib.hid c1
      have HC2 := Lib.hid c2
      have e1 : (((p + 1 : Nat) : Int) - 1) = (p : Int) := by omega
      rw [e1]
      clear c1 c2 hu hv hc hc' e1 ht
      have w1 : IntKind.i64.wrap ((p : Int) - 1) = (p : Int) - 1 := by rw [IntKind.wrap_i64]; omega
      have b1 : (0 : Int) ≤ (p : Int) := by omega
      have b2 : (p : Int) < (n : Int) := by omega
      have hkl := cell_lt g1
      have hkl' := cell_lt g2
      have hbne : ((u : Int) != (v : Int)) = !decide (u = v) := by rw [Bool.eq_iff_iff]; simp; omega
      go_upto_region 4 with fail
      refine wp_region_made wa.heap.size wa rfl (by kernel_rfl) (Below.refl _ _) ?_
      refine wpQ_run rfl (.slice (some ⟨b, o, none⟩) n c) (fun w hw => by simp [go_sem]) ?_
      simp only [Act.put, List.setIfInBounds_toArray, List.set_cons_zero, List.set_cons_succ]
      refine wpQ_run rfl (.int .i64 p) (fun w hw => by simp [go_sem]) ?_
      simp only [Act.put, List.setIfInBounds_toArray, List.set_cons_zero, List.set_cons_succ]
      refine wpQ_run rfl (.pointer (some ⟨b, o + p, none⟩)) (fun w hw => by simp [go_sem, b1, b2, Addr.add]) ?_
      simp only [Act.put, List.setIfInBounds_toArray, List.set_cons_zero, List.set_cons_succ]
      refine wpQ_run rfl (.int .u64 u) (fun w hw => by simp [go_sem, (hw.cell (p := ⟨b, o + p, none⟩) hkl).trans g1]) ?_
      simp only [Act.put, List.setIfInBounds_toArray, List.set_cons_zero, List.set_cons_succ]
      refine wpQ_run rfl (.slice (some ⟨b', o', none⟩) n c') (fun w hw => by simp [go_sem]) ?_
      simp only [Act.put, List.setIfInBounds_toArray, List.set_cons_zero, List.set_cons_succ]
      refine wpQ_run rfl (.int .i64 p) (fun w hw => by simp [go_sem]) ?_
      simp only [Act.put, List.setIfInBounds_toArray, List.set_cons_zero, List.set_cons_succ]
      refine wpQ_run rfl (.pointer (some ⟨b', o' + p, none⟩)) (fun w hw => by simp [go_sem, b1, b2, Addr.add]) ?_
      simp only [Act.put, List.setIfInBounds_toArray, List.set_cons_zero, List.set_cons_succ]
      refine wpQ_run rfl (.int .u64 v) (fun w hw => by simp [go_sem, (hw.cell (p := ⟨b', o' + p, none⟩) hkl').trans g2]) ?_
      simp only [Act.put, List.setIfInBounds_toArray, List.set_cons_zero, List.set_cons_succ]
      refine wpQ_run rfl (.bool (decide (u ≠ v))) (fun w hw => by simp [go_sem, hbne]) ?_
      simp only [Act.put, List.setIfInBounds_toArray, List.set_cons_zero, List.set_cons_succ]
      intro w1 hb1
      replace g1 := (hb1.cell (p := ⟨b, o + p, none⟩) hkl).trans g1
      replace g2 := (hb1.cell (p := ⟨b', o' + p, none⟩) hkl').trans g2
      replace hkl := cell_lt g1
      replace hkl' := cell_lt g2
      replace hB := hB.trans (hb1.mono hB.size)
      clear hb1 hbne
      by_cases huv : u = v
      · have e : decide (u ≠ v) = false := by simp [huv]
        rw [e]
        go_wp2_with fail
        exact ⟨⟨p, by omega, by go_num, HC2.out huv, hB⟩, by simp [intOf]⟩
      · have e : decide (u ≠ v) = true := by simp [huv]
        have hd : decide (A < B) = decide (u < v) := by rw [Bool.eq_iff_iff]; simpa using HC1.out huv
        have HD := Lib.hid hd
        rw [e]
        clear hd e
        go_upto_region 5 with fail
        refine wp_region_made w1.heap.size w1 rfl (by kernel_rfl) (Below.refl _ _) ?_
        refine wpQ_run rfl (.slice (some ⟨b, o, none⟩) n c) (fun w hw => by simp [go_sem]) ?_
        simp only [Act.put, List.setIfInBounds_toArray, List.set_cons_zero, List.set_cons_succ]
        refine wpQ_run rfl (.int .i64 p) (fun w hw => by simp [go_sem]) ?_
        simp only [Act.put, List.setIfInBounds_toArray, List.set_cons_zero, List.set_cons_succ]
        refine wpQ_run rfl (.pointer (some ⟨b, o + p, none⟩)) (fun w hw => by simp [go_sem, b1, b2, Addr.add]) ?_
        simp only [Act.put, List.setIfInBounds_toArray, List.set_cons_zero, List.set_cons_succ]
        refine wpQ_run rfl (.int .u64 u) (fun w hw => by simp [go_sem, (hw.cell (p := ⟨b, o + p, none⟩) hkl).trans g1]) ?_
        simp only [Act.put, List.setIfInBounds_toArray, List.set_cons_zero, List.set_cons_succ]
        refine wpQ_run rfl (.slice (some ⟨b', o', none⟩) n c') (fun w hw => by simp [go_sem]) ?_
        simp only [Act.put, List.setIfInBounds_toArray, List.set_cons_zero, List.set_cons_succ]
        refine wpQ_run rfl (.int .i64 p) (fun w hw => by simp [go_sem]) ?_
        simp only [Act.put, List.setIfInBounds_toArray, List.set_cons_zero, List.set_cons_succ]
        refine wpQ_run rfl (.pointer (some ⟨b', o' + p, none⟩)) (fun w hw => by simp [go_sem, b1, b2, Addr.add]) ?_
        simp only [Act.put, List.setIfInBounds_toArray, List.set_cons_zero, List.set_cons_succ]
        refine wpQ_run rfl (.int .u64 v) (fun w hw => by simp [go_sem, (hw.cell (p := ⟨b', o' + p, none⟩) hkl').trans g2]) ?_
        simp only [Act.put, List.setIfInBounds_toArray, List.set_cons_zero, List.set_cons_succ]
        refine wpQ_run rfl (.bool (decide (u < v))) (fun w hw => by simp [go_sem]) ?_
        simp only [Act.put, List.setIfInBounds_toArray, List.set_cons_zero, List.set_cons_succ]
        refine wpQ_run rfl (.bool (decide (u < v))) (fun w hw => by simp [go_sem]) ?_
        simp only [Act.put, List.setIfInBounds_toArray, List.set_cons_zero, List.set_cons_succ]
        intro w2 hb2
        replace hB := hB.trans (hb2.mono hB.size)
        clear hb2 g1 g2
        go_wp2_with fail
        go_ret
        exact ⟨by rw [HD.out]; rfl, hB⟩
end Go.Proofs.Ytpkoniebbkkmjaa

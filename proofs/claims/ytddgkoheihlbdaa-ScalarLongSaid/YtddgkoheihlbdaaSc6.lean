/- scalar: slices.Equal of bytes; May. -/
import Derived.Test.YtddgkoheihlbdaaSc5
namespace Go.Proofs.Ytddgkoheihlbdaa
open Go.RowKit

theorem take_eq_step (l m : List UInt8) (k : Nat) (h : l.take k = m.take k) (hl : k < l.length) (hm : k < m.length) : (l.take (k + 1) = m.take (k + 1)) ↔ l.getD k 0 = m.getD k 0 := by
  rw [List.take_add_one, List.take_add_one, h]
  simp only [Option.toList_some, List.append_cancel_left_eq, List.cons.injEq, and_true, List.getD_eq_getElem?_getD, List.getElem?_eq_getElem hl, List.getElem?_eq_getElem hm, Option.getD_some]

set_option maxRecDepth 100000 in
set_option maxHeartbeats 4000000 in
theorem slEqual_any (a a' : Option Addr) (n c n' c' : Nat) (l m : List UInt8) (w : World) (h : Sl w a n c l) (h' : Sl w a' n' c' m) :
    Calls Try.prog 68 #[.slice a n c, .slice a' n' c'] w fun e w' => e = .returned (.bool (decide (l = m))) ∧ Below w.heap.size w w' := by
  have hn := h.1
  have hn' := h'.1
  by_cases hne : n = n'
  · subst hne
    by_cases h0 : n = 0
    · have e1 : l = [] := List.eq_nil_of_length_eq_zero (by omega)
      have e2 : m = [] := List.eq_nil_of_length_eq_zero (by omega)
      subst h0
      have hd : decide (l = m) = true := by rw [e1, e2]; rfl
      rw [hd]
      clear h h' hn hn' e1 e2 hd
      go_enter Try.func68, Try.ntmps68
      go_wp2_with fail
      go_loopw [13] (fun i wr => i = .int .i64 0 ∧ Below w.heap.size w wr) (fun _ _ => 0)
      case atStart => exact ⟨rfl, Below.refl _ _⟩
      case round =>
        obtain ⟨wa, rfl⟩ : ∃ wa : World, wa = wr := ⟨_, rfl⟩
        obtain ⟨rfl, hB⟩ := hrel
        go_wp2_with fail
        go_ret
        exact ⟨rfl, hB⟩
    · obtain ⟨b, o, rfl, hc⟩ := h.2.2.2.2.resolve_left h0
      obtain ⟨b', o', rfl, hc'⟩ := h'.2.2.2.2.resolve_left h0
      have hml := h.2.2.1
      have hcap := h.2.1
      have HN := Lib.hid hn
      have HN' := Lib.hid hn'
      have hb := cell_lt (hc 0 (by omega))
      have hb' := cell_lt (hc' 0 (by omega))
      have hnb : (n : Int) ≤ 9223372036854775807 := by unfold maxLen at hml; omega
      clear h h' hn hn' hml
      go_enter Try.func68, Try.ntmps68
      go_wp2_with fail
      go_loopw [13] (fun i wr => ∃ k : Nat, k ≤ n ∧ i = .int .i64 k ∧ l.take k = m.take k ∧ Below w.heap.size w wr) (fun i _ => n - (intOf i).toNat)
      case atStart => exact ⟨0, by omega, rfl, by simp, Below.refl _ _⟩
      case round =>
        obtain ⟨wa, rfl⟩ : ∃ wa : World, wa = wr := ⟨_, rfl⟩
        obtain ⟨k, hk, rfl, ht, hB⟩ := hrel
        by_cases hlt : k < n
        · have g1 := (hB.cell (p := ⟨b, o + k, none⟩) hb).trans (hc k hlt)
          have g2 := (hB.cell (p := ⟨b', o' + k, none⟩) hb').trans (hc' k hlt)
          have hst := take_eq_step l m k ht (by have := HN.out; omega) (by have := HN'.out; omega)
          have HD : Hid (l.getD k 0 ≠ m.getD k 0 → decide (l = m) = false) := Lib.hid fun hne => by
            simp only [decide_eq_false_iff_not]; intro e; exact hne (by rw [e])
          have HS := Lib.hid hst
          have u1 := (l.getD k 0).toNat_lt
          have u2 := (m.getD k 0).toNat_lt
          have hne : ((l.getD k 0).toNat ≠ (m.getD k 0).toNat) ↔ l.getD k 0 ≠ m.getD k 0 := by rw [ne_eq, UInt8.toNat_inj]
          obtain ⟨u, hu⟩ : ∃ u, u = (l.getD k 0).toNat := ⟨_, rfl⟩
          obtain ⟨v, hv⟩ : ∃ v, v = (m.getD k 0).toNat := ⟨_, rfl⟩
          rw [← hu] at g1 u1 hne
          rw [← hv] at g2 u2 hne
          have HNE := Lib.hid hne
          clear hst hne hu hv hc hc'
          have b1 : (0 : Int) ≤ (k : Int) := by omega
          have b2 : (k : Int) < (n : Int) := by omega
          have hkl := cell_lt g1
          have hkl' := cell_lt g2
          have hbne : ((u : Int) != (v : Int)) = !decide (u = v) := by rw [Bool.eq_iff_iff]; simp; omega
          go_upto_region 6 with fail
          refine wp_region_made wa.heap.size wa rfl (by kernel_rfl) (Below.refl _ _) ?_
          refine wpQ_run rfl (.slice (some ⟨b, o, none⟩) n c) (fun w hw => by simp [go_sem]) ?_
          simp only [Act.put, List.setIfInBounds_toArray, List.set_cons_zero, List.set_cons_succ]
          refine wpQ_run rfl (.int .i64 k) (fun w hw => by simp [go_sem]) ?_
          simp only [Act.put, List.setIfInBounds_toArray, List.set_cons_zero, List.set_cons_succ]
          refine wpQ_run rfl (.pointer (some ⟨b, o + k, none⟩)) (fun w hw => by simp [go_sem, b1, b2, Addr.add]) ?_
          simp only [Act.put, List.setIfInBounds_toArray, List.set_cons_zero, List.set_cons_succ]
          refine wpQ_run rfl (.int .u8 u) (fun w hw => by simp [go_sem, (hw.cell (p := ⟨b, o + k, none⟩) hkl).trans g1]) ?_
          simp only [Act.put, List.setIfInBounds_toArray, List.set_cons_zero, List.set_cons_succ]
          refine wpQ_run rfl (.slice (some ⟨b', o', none⟩) n c') (fun w hw => by simp [go_sem]) ?_
          simp only [Act.put, List.setIfInBounds_toArray, List.set_cons_zero, List.set_cons_succ]
          refine wpQ_run rfl (.int .i64 k) (fun w hw => by simp [go_sem]) ?_
          simp only [Act.put, List.setIfInBounds_toArray, List.set_cons_zero, List.set_cons_succ]
          refine wpQ_run rfl (.pointer (some ⟨b', o' + k, none⟩)) (fun w hw => by simp [go_sem, b1, b2, Addr.add]) ?_
          simp only [Act.put, List.setIfInBounds_toArray, List.set_cons_zero, List.set_cons_succ]
          refine wpQ_run rfl (.int .u8 v) (fun w hw => by simp [go_sem, (hw.cell (p := ⟨b', o' + k, none⟩) hkl').trans g2]) ?_
          simp only [Act.put, List.setIfInBounds_toArray, List.set_cons_zero, List.set_cons_succ]
          refine wpQ_run rfl (.bool (decide (u ≠ v))) (fun w hw => by simp [go_sem, hbne]) ?_
          simp only [Act.put, List.setIfInBounds_toArray, List.set_cons_zero, List.set_cons_succ]
          intro w1 hb1
          clear hbne
          replace hB := hB.trans (hb1.mono hB.size)
          clear hb1 g1 g2
          by_cases huv : u = v
          · have e : decide (u ≠ v) = false := by simp [huv]
            rw [e]
            go_wp2_with fail
            exact ⟨⟨k + 1, by omega, by go_num, HS.out.2 (by have := HNE.out; exact Classical.not_not.1 fun x => this.2 x huv), hB⟩, by simp [intOf]; omega⟩
          · have e : decide (u ≠ v) = true := by simp [huv]
            have hd := HD.out (HNE.out.1 huv)
            rw [e]
            go_wp2_with fail
            go_ret
            exact ⟨by rw [hd]; rfl, hB⟩
        · obtain rfl : k = n := by omega
          have hd : decide (l = m) = true := by
            have e1 := HN.out
            have e2 := HN'.out
            simp only [decide_eq_true_eq]
            rwa [List.take_of_length_le (by omega), List.take_of_length_le (by omega)] at ht
          have HD := Lib.hid hd
          clear hd ht
          go_wp2_with fail
          go_ret
          exact ⟨by rw [HD.out]; rfl, hB⟩
  · have hd : decide (l = m) = false := by simp only [decide_eq_false_iff_not]; intro e; rw [e] at hn; omega
    rw [hd]
    have hml := h.2.2.1
    have hml' := h'.2.2.1
    have hcap := h.2.1
    have hcap' := h'.2.1
    unfold maxLen at hml hml'
    clear h h' hd hn hn'
    have hne2 : ¬ (n : Int) = (n' : Int) := by omega
    go_enter Try.func68, Try.ntmps68
    go_wp2_with fail
    go_ret
    exact ⟨rfl, Below.refl _ _⟩

/-- may bytes be a scalar's? -/
def mayB (l : List UInt8) : Bool := decide (l.length = 32) && decide (leNat l < LL)
theorem mayB_eq (l : List UInt8) (h : l.length = 32) : decide (l = leBytes (leNat l % LL) 32) = decide (leNat l < LL) := by
  have hL : LL < 256 ^ 32 := by unfold LL; decide
  have h1 := leNat_lt l
  rw [h] at h1
  by_cases hlt : leNat l < LL
  · have e : l = leBytes (leNat l % LL) 32 := by
      rw [Nat.mod_eq_of_lt hlt, ← h, leBytes_leNat]
    simp only [hlt, decide_true, decide_eq_true_eq]
    exact e
  · have e : ¬ l = leBytes (leNat l % LL) 32 := fun e => by
      have := congrArg leNat e
      rw [leNat_leBytes] at this
      have hm : leNat l % LL < LL := Nat.mod_lt _ (by unfold LL; omega)
      rw [Nat.mod_eq_of_lt (Nat.lt_trans hm hL)] at this
      omega
    simp only [hlt, decide_false, decide_eq_false_iff_not]
    exact e

theorem bts_size (n : Nat) : (bts n).size = 32 := by simp [bts, lCells, leBytes]
theorem bts_one (n : Nat) : (bts n).all (·.oneCell') = true := by
  unfold bts; exact all_oneCell_toArray (fun v hv => by simp only [lCells, List.mem_map] at hv; obtain ⟨_, _, rfl⟩ := hv; rfl)
theorem sl_bts {w : World} {g : Nat} {T : TypeId} {n : Nat} (h : Box w g T (bts n)) : Sl w (some ⟨g, 0, none⟩) 32 32 (leBytes n 32) := by
  refine ⟨by simp [leBytes], Nat.le_refl _, by unfold maxLen; omega, (fun h => by cases h), .inr ⟨g, 0, rfl, fun i hi => ?_⟩⟩
  rw [Nat.zero_add]
  exact h.cell i (by simp [bts, lCells, leBytes, hi])

set_option maxRecDepth 100000 in
set_option maxHeartbeats 4000000 in
theorem may_any (a : Option Addr) (n c : Nat) (l : List UInt8) (w : World) (h : Sl w a n c l) :
    Calls Try.prog 29 #[.slice a n c] w fun e w' => e = .returned (.bool (mayB l)) ∧ Below w.heap.size w w' := by
  have hn := h.1
  have hml := h.2.2.1
  have hcap := h.2.1
  have HM := Lib.hid (show n = 32 → mayB l = decide (l = leBytes (leNat l % LL) 32) from fun e => by rw [mayB_eq l (by omega)]; unfold mayB; rw [decide_eq_true (show l.length = 32 by omega), Bool.true_and])
  have HM0 := Lib.hid (show n ≠ 32 → mayB l = false from fun e => by unfold mayB; rw [decide_eq_false (by omega), Bool.false_and])
  have HR := Lib.hid (fun w (h : Sl w a n c l) => reduce_any a n c l w h)
  have HE := Lib.hid (fun w g (h : Sl w a n c l) (hg : Box w g 40 (bts (leNat l % LL))) => slEqual_any a (some ⟨g, 0, none⟩) n c 32 32 l _ w h (sl_bts hg))
  have HGS := Lib.hid (bts_size (leNat l % LL))
  have HG1 := Lib.hid (bts_one (leNat l % LL))
  obtain ⟨r, hr⟩ : ∃ r, r = decide (l = leBytes (leNat l % LL) 32) := ⟨_, rfl⟩
  rw [← hr] at HE HM
  obtain ⟨G, hG⟩ : ∃ G, G = bts (leNat l % LL) := ⟨_, rfl⟩
  rw [← hG] at HR HE HGS HG1
  have hnb : (n : Int) ≤ 9223372036854775807 := by unfold maxLen at hml; omega
  clear hr hG hn hml
  have hb0 := Below.refl w.heap.size w
  go_enter Try.func29, Try.ntmps29
  go_upto_region 1 with fail
  go_step
  refine wpList_value rfl (.slice a n c) (by simp [go_sem]) ?_
  simp only [Act.put, List.setIfInBounds_toArray, List.set_cons_zero, List.set_cons_succ]
  refine wpList_made_call rfl 27 #[.slice a n c] (by simp [go_sem]) _ (HR.out _ h) ?_
  intro v1 b1
  simp only [Act.put, List.setIfInBounds_toArray, List.set_cons_zero, List.set_cons_succ]
  refine wpList_new rfl 40 rfl #[.int .u8 0, .int .u8 0, .int .u8 0, .int .u8 0, .int .u8 0, .int .u8 0, .int .u8 0, .int .u8 0, .int .u8 0, .int .u8 0, .int .u8 0, .int .u8 0, .int .u8 0, .int .u8 0, .int .u8 0, .int .u8 0, .int .u8 0, .int .u8 0, .int .u8 0, .int .u8 0, .int .u8 0, .int .u8 0, .int .u8 0, .int .u8 0, .int .u8 0, .int .u8 0, .int .u8 0, .int .u8 0, .int .u8 0, .int .u8 0, .int .u8 0, .int .u8 0] (by intro w; simp [go_sem]) ?_
  intro gD v2 hD2 lD b2
  simp only [Act.put, List.setIfInBounds_toArray, List.set_cons_zero, List.set_cons_succ]
  refine wpList_store_box (cells := G) rfl 40 _ _ rfl hD2 (by rfl) (by rfl) (by rw [HGS.out]; rfl) (by rw [HGS.out]; kernel_rfl) HG1.out ?_
  intro v3 hD3 st3
  simp only [Act.put]
  have hB3 := st3.below w.heap.size w (Nat.le_trans b1.size lD) ((hb0.trans b1).trans (b2.mono b1.size))
  have hs3 := h.after hB3
  clear st3 b2 hD2 b1 lD h hb0
  by_cases h32 : n = 32
  · subst h32
    go_upto_region 2 with fail
    go_step
    refine wpList_value rfl (.slice a 32 c) (by simp [go_sem]) ?_
    simp only [Act.put, List.setIfInBounds_toArray, List.set_cons_zero, List.set_cons_succ]
    refine wpList_value rfl (.int .i64 32) (by simp [go_sem]) ?_
    simp only [Act.put, List.setIfInBounds_toArray, List.set_cons_zero, List.set_cons_succ]
    refine wpList_value rfl (.bool true) (by simp [go_sem]) ?_
    simp only [Act.put, List.setIfInBounds_toArray, List.set_cons_zero, List.set_cons_succ]
    refine wpList_value rfl (.bool true) (by simp [go_sem]) ?_
    simp only [Act.put, List.setIfInBounds_toArray, List.set_cons_zero, List.set_cons_succ]
    refine wpList_value rfl (.slice a 32 c) (by simp [go_sem]) ?_
    simp only [Act.put, List.setIfInBounds_toArray, List.set_cons_zero, List.set_cons_succ]
    refine wpList_value rfl (.slice (some ⟨gD, 0, none⟩) 32 32) (by simp [go_sem]) ?_
    simp only [Act.put, List.setIfInBounds_toArray, List.set_cons_zero, List.set_cons_succ]
    refine wpList_made_call rfl 68 #[.slice a 32 c, .slice (some ⟨gD, 0, none⟩) 32 32] (by simp [go_sem]) _ (HE.out _ _ hs3 hD3) ?_
    intro v4 b4
    simp only [Act.put, List.setIfInBounds_toArray, List.set_cons_zero, List.set_cons_succ]
    refine wpList_value rfl (.bool r) (by simp [go_sem]) ?_
    simp only [Act.put, List.setIfInBounds_toArray, List.set_cons_zero, List.set_cons_succ]
    refine wpList_value rfl (.bool r) (by simp [go_sem]) ?_
    simp only [Act.put, List.setIfInBounds_toArray, List.set_cons_zero, List.set_cons_succ]
    have hB4 := hB3.trans (b4.mono hB3.size)
    clear b4 hB3 hD3 hs3
    go_wp2_with fail
    go_ret
    exact ⟨by rw [HM.out trivial]; rfl, hB4⟩
  · have hne : ¬ (n : Int) = 32 := by omega
    clear hs3 hD3
    go_wp2_with fail
    go_ret
    exact ⟨by rw [HM0.out h32]; rfl, hB3⟩
end Go.Proofs.Ytddgkoheihlbdaa

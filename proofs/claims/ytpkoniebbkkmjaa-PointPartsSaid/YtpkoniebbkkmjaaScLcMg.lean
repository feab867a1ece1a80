/- scalar: the document's May; what the laws use: the example, comparisons. -/
import Derived.Test.YtpkoniebbkkmjaaScRcMg
namespace Go.Proofs.Ytpkoniebbkkmjaa
open Go.RowKit

def mayB (l : List UInt8) : Bool := decide (l.length = 32) && decide (leNat l < LL)
theorem mayB_eq (l : List UInt8) (h : l.length = 32) : decide (l = leBytes (leNat l % LL) 32) = decide (leNat l < LL) := by
  have hL : LL < 256 ^ 32 := by unfold LL; decide
  have h1 := leNat_lt l
  rw [h] at h1
  by_cases hlt : leNat l < LL
  · have e : l = leBytes (leNat l % LL) 32 := by
      rw [Nat.mod_eq_of_lt hlt, ← h, leBytes_leNat]
    simp only [hlt, decide_true, decide_eq_true_eq]
    exact e
  · have e : ¬ l = leBytes (leNat l % LL) 32 := fun e => by
      have := congrArg leNat e
      rw [leNat_leBytes] at this
      have hm : leNat l % LL < LL := Nat.mod_lt _ (by unfold LL; omega)
      rw [Nat.mod_eq_of_lt (Nat.lt_trans hm hL)] at this
      omega
    simp only [hlt, decide_false, decide_eq_false_iff_not]
    exact e

theorem bts_size_s (n : Nat) : (bts_s n).size = 32 := by simp [bts_s, lCells, leBytes]
theorem bts_one_s (n : Nat) : (bts_s n).all (·.oneCell') = true := by
  unfold bts_s; exact all_oneCell_toArray (fun v hv => by simp only [lCells, List.mem_map] at hv; obtain ⟨_, _, rfl⟩ := hv; rfl)
theorem sl_bts {w : World} {g : Nat} {T : TypeId} {n : Nat} (h : Box w g T (bts_s n)) : Sl w (some ⟨g, 0, none⟩) 32 32 (leBytes n 32) := by
  refine ⟨by simp [leBytes], Nat.le_refl _, by unfold maxLen; omega, (fun h => by cases h), .inr ⟨g, 0, rfl, fun i hi => ?_⟩⟩
  rw [Nat.zero_add]
  exact h.cell i (by simp [bts_s, lCells, leBytes, hi])

theorem str_eq (l m : List UInt8) : (l == m) = decide (l = m) := by
  rw [Bool.eq_iff_iff]
  simp

theorem Sl.drew {w : World} {a : Option Addr} {n c : Nat} {l : List UInt8} (h : Sl w a n c l) : Sl w.drew a n c l := h
set_option maxRecDepth 100000 in
set_option maxHeartbeats 4000000 in
theorem refMay_any (a : Option Addr) (n c : Nat) (l : List UInt8) (w : World) (hn1 : n < 100000) (h : Sl w a n c l) :
    Calls Try.prog 26 #[.slice a n c] w fun e w' => e = .returned (.bool (mayB l)) ∧ Below w.heap.size w w' := by
  have hn := h.1
  have hml := h.2.2.1
  have hcap := h.2.1
  have HM := Lib.hid (show n = 32 → mayB l = decide (leBytes (leNat l % LL) 32 = l) from fun e => by rw [show decide (leBytes (leNat l % LL) 32 = l) = decide (l = leBytes (leNat l % LL) 32) from by simp only [eq_comm], mayB_eq l (by omega)]; unfold mayB; rw [decide_eq_true (show l.length = 32 by omega), Bool.true_and])
  have HM0 := Lib.hid (show n ≠ 32 → mayB l = false from fun e => by unfold mayB; rw [decide_eq_false (by omega), Bool.false_and])
  have HR := Lib.hid (fun w (h : Sl w a n c l) => refReduce_any a n c l w hn1 h)
  have HCV := Lib.hid (fun (w : World) (h : Sl w a n c l) => conv_sl h)
  have hnb : (n : Int) < 100000 := by omega
  clear hn hml
  go_enter Try.func26, Try.ntmps26
  go_upto_region 1 with fail
  have hKS : Keeps (fun w' : World => Sl w' a n c l) := fun w w' h b => h.after b
  by_cases h32 : n = 32
  · subst h32
    refine wp_region_U (w := w) (fun w' : World => Sl w' a 32 c l) rfl h.drew ?_
    refine wpU_val 0 hKS rfl (by kernel_rfl) (by kernel_rfl) (by kernel_rfl) rfl (fun _ _ _ _ h => h) (.slice a 32 c) (fun w' h => by simp [go_sem]) ?_
    simp only [Act.put, List.setIfInBounds_toArray, List.set_cons_zero, List.set_cons_succ]
    refine wpU_val 1 hKS rfl (by kernel_rfl) (by kernel_rfl) (by kernel_rfl) rfl (fun _ _ _ _ h => h) (.int .i64 32) (fun w' h => by simp [go_sem]) ?_
    simp only [Act.put, List.setIfInBounds_toArray, List.set_cons_zero, List.set_cons_succ]
    refine wpU_val 2 hKS rfl (by kernel_rfl) (by kernel_rfl) (by kernel_rfl) rfl (fun _ _ _ _ h => h) (.bool true) (fun w' h => by simp [go_sem]) ?_
    simp only [Act.put, List.setIfInBounds_toArray, List.set_cons_zero, List.set_cons_succ]
    refine wpU_val 3 hKS rfl (by kernel_rfl) (by kernel_rfl) (by kernel_rfl) rfl (fun _ _ _ _ h => h) (.bool true) (fun w' h => by simp [go_sem]) ?_
    simp only [Act.put, List.setIfInBounds_toArray, List.set_cons_zero, List.set_cons_succ]
    refine wpU_val 4 hKS rfl (by kernel_rfl) (by kernel_rfl) (by kernel_rfl) rfl (fun _ _ _ _ h => h) (.slice a 32 c) (fun w' h => by simp [go_sem]) ?_
    simp only [Act.put, List.setIfInBounds_toArray, List.set_cons_zero, List.set_cons_succ]
    refine wpU_val 7 hKS rfl (by kernel_rfl) (by kernel_rfl) (by kernel_rfl) rfl (fun _ _ _ _ h => h) (.slice a 32 c) (fun w' h => by simp [go_sem]) ?_
    simp only [Act.put, List.setIfInBounds_toArray, List.set_cons_zero, List.set_cons_succ]
    refine wpU_val 8 hKS rfl (by kernel_rfl) (by kernel_rfl) (by kernel_rfl) rfl (fun _ _ _ _ h => h) (.string ⟨l.toArray⟩) (fun w' h => by simp [go_sem, HCV.out w' h]) ?_
    simp only [Act.put, List.setIfInBounds_toArray, List.set_cons_zero, List.set_cons_succ]
    refine wpU_one 5 rfl (by kernel_rfl) rfl ?_
    intro v1 b1 sS
    refine wp_callR 54 #[.slice a 32 c] (by simp [go_sem]) _ (HR.out _ sS) ?_
    rintro e v2 ⟨a2, c2, rfl, hs2, hb⟩
    refine ⟨_, rfl, hKS _ _ sS hb, ?_⟩
    simp only [Act.put, List.setIfInBounds_toArray, List.set_cons_zero, List.set_cons_succ]
    have HC2 := Lib.hid (fun w' (b : Below v2.heap.size v2 w') => conv_sl (hs2.after b))
    rw [leBytes_len] at HC2 ⊢
    refine wpU_oneval 6 rfl (by kernel_rfl) rfl (.string ⟨(leBytes (leNat l % LL) 32).toArray⟩) (fun w1 b1 s1 => by simp [go_sem, HC2.out w1 b1]) ?_
    simp only [Act.put, List.setIfInBounds_toArray, List.set_cons_zero, List.set_cons_succ]
    refine wpU_val 9 hKS rfl (by kernel_rfl) (by kernel_rfl) (by kernel_rfl) rfl (fun _ _ _ _ h => h) (.bool (decide (leBytes (leNat l % LL) 32 = l))) (fun w' h => by simp [go_sem, str_eq]) ?_
    simp only [Act.put, List.setIfInBounds_toArray, List.set_cons_zero, List.set_cons_succ]
    refine wpU_val 10 hKS rfl (by kernel_rfl) (by kernel_rfl) (by kernel_rfl) rfl (fun _ _ _ _ h => h) (.bool (decide (leBytes (leNat l % LL) 32 = l))) (fun w' h => by simp [go_sem]) ?_
    simp only [Act.put, List.setIfInBounds_toArray, List.set_cons_zero, List.set_cons_succ]
    refine wpU_val 11 hKS rfl (by kernel_rfl) (by kernel_rfl) (by kernel_rfl) rfl (fun _ _ _ _ h => h) (.bool (decide (leBytes (leNat l % LL) 32 = l))) (fun w' h => by simp [go_sem]) ?_
    simp only [Act.put, List.setIfInBounds_toArray, List.set_cons_zero, List.set_cons_succ]
    refine wpU_done (by kernel_rfl) ?_
    intro v3 b3 s3
    have hB : Below w.heap.size w v3 := (((Below.refl w.heap.size w).drew.trans b1).trans (hb.mono b1.size)).trans (b3.mono (Nat.le_trans b1.size hb.size))
    clear s3 sS hs2 HC2 hb b1 b3
    generalize decide (leBytes (leNat l % LL) 32 = l) = r at *
    go_wp2_with fail
    go_ret
    exact ⟨by rw [HM.out trivial]; rfl, hB⟩
  · have hne : ¬ (n : Int) = 32 := by omega
    refine wp_region_U (w := w) (fun w' : World => Sl w' a n c l) rfl h.drew ?_
    refine wpU_val 0 hKS rfl (by kernel_rfl) (by kernel_rfl) (by kernel_rfl) rfl (fun _ _ _ _ h => h) (.slice a n c) (fun w' h => by simp [go_sem]) ?_
    simp only [Act.put, List.setIfInBounds_toArray, List.set_cons_zero, List.set_cons_succ]
    refine wpU_val 1 hKS rfl (by kernel_rfl) (by kernel_rfl) (by kernel_rfl) rfl (fun _ _ _ _ h => h) (.int .i64 n) (fun w' h => by simp [go_sem]) ?_
    simp only [Act.put, List.setIfInBounds_toArray, List.set_cons_zero, List.set_cons_succ]
    refine wpU_val 2 hKS rfl (by kernel_rfl) (by kernel_rfl) (by kernel_rfl) rfl (fun _ _ _ _ h => h) (.bool false) (fun w' h => by simp [go_sem]; omega) ?_
    simp only [Act.put, List.setIfInBounds_toArray, List.set_cons_zero, List.set_cons_succ]
    refine wpU_val 3 hKS rfl (by kernel_rfl) (by kernel_rfl) (by kernel_rfl) rfl (fun _ _ _ _ h => h) (.bool false) (fun w' h => by simp [go_sem]) ?_
    simp only [Act.put, List.setIfInBounds_toArray, List.set_cons_zero, List.set_cons_succ]
    refine wpU_skip 4 hKS rfl (by kernel_rfl) (by kernel_rfl) (by kernel_rfl) rfl (fun _ _ _ _ h => h) ?_
    simp only [Act.put, List.setIfInBounds_toArray, List.set_cons_zero, List.set_cons_succ]
    refine wpU_skip 5 hKS rfl (by kernel_rfl) (by kernel_rfl) (by kernel_rfl) rfl (fun _ _ _ _ h => h) ?_
    simp only [Act.put, List.setIfInBounds_toArray, List.set_cons_zero, List.set_cons_succ]
    refine wpU_skip 6 hKS rfl (by kernel_rfl) (by kernel_rfl) (by kernel_rfl) rfl (fun _ _ _ _ h => h) ?_
    simp only [Act.put, List.setIfInBounds_toArray, List.set_cons_zero, List.set_cons_succ]
    refine wpU_skip 7 hKS rfl (by kernel_rfl) (by kernel_rfl) (by kernel_rfl) rfl (fun _ _ _ _ h => h) ?_
    simp only [Act.put, List.setIfInBounds_toArray, List.set_cons_zero, List.set_cons_succ]
    refine wpU_skip 8 hKS rfl (by kernel_rfl) (by kernel_rfl) (by kernel_rfl) rfl (fun _ _ _ _ h => h) ?_
    simp only [Act.put, List.setIfInBounds_toArray, List.set_cons_zero, List.set_cons_succ]
    refine wpU_skip 9 hKS rfl (by kernel_rfl) (by kernel_rfl) (by kernel_rfl) rfl (fun _ _ _ _ h => h) ?_
    simp only [Act.put, List.setIfInBounds_toArray, List.set_cons_zero, List.set_cons_succ]
    refine wpU_val 10 hKS rfl (by kernel_rfl) (by kernel_rfl) (by kernel_rfl) rfl (fun _ _ _ _ h => h) (.bool false) (fun w' h => by simp [go_sem]) ?_
    simp only [Act.put, List.setIfInBounds_toArray, List.set_cons_zero, List.set_cons_succ]
    refine wpU_val 11 hKS rfl (by kernel_rfl) (by kernel_rfl) (by kernel_rfl) rfl (fun _ _ _ _ h => h) (.bool false) (fun w' h => by simp [go_sem]) ?_
    simp only [Act.put, List.setIfInBounds_toArray, List.set_cons_zero, List.set_cons_succ]
    refine wpU_done (by kernel_rfl) ?_
    intro v3 b3 s3
    have hB : Below w.heap.size w v3 := (Below.refl w.heap.size w).drew.trans b3
    clear s3 b3 h
    go_wp2_with fail
    go_ret
    exact ⟨by rw [HM0.out h32]; rfl, hB⟩

end Go.Proofs.Ytpkoniebbkkmjaa

/- scalar: the document's May; what the laws use: the example, comparisons. -/
import Derived.Test.YtddgkoheihlbdaaScR4
namespace Go.Proofs.Ytddgkoheihlbdaa
open Go.RowKit

theorem str_eq (l m : List UInt8) : (l == m) = decide (l = m) := by
  rw [Bool.eq_iff_iff]
  simp

theorem Sl.drew {w : World} {a : Option Addr} {n c : Nat} {l : List UInt8} (h : Sl w a n c l) : Sl w.drew a n c l := h
set_option maxRecDepth 100000 in
set_option maxHeartbeats 4000000 in
theorem refMay_any (a : Option Addr) (n c : Nat) (l : List UInt8) (w : World) (hn1 : n < 100000) (h : Sl w a n c l) :
    Calls Try.prog 30 #[.slice a n c] w fun e w' => e = .returned (.bool (mayB l)) ∧ Below w.heap.size w w' := by
  have hn := h.1
  have hml := h.2.2.1
  have hcap := h.2.1
  have HM := Lib.hid (show n = 32 → mayB l = decide (leBytes (leNat l % LL) 32 = l) from fun e => by rw [show decide (leBytes (leNat l % LL) 32 = l) = decide (l = leBytes (leNat l % LL) 32) from by simp only [eq_comm], mayB_eq l (by omega)]; unfold mayB; rw [decide_eq_true (show l.length = 32 by omega), Bool.true_and])
  have HM0 := Lib.hid (show n ≠ 32 → mayB l = false from fun e => by unfold mayB; rw [decide_eq_false (by omega), Bool.false_and])
  have HR := Lib.hid (fun w (h : Sl w a n c l) => refReduce_any a n c l w hn1 h)
  have HCV := Lib.hid (fun (w : World) (h : Sl w a n c l) => conv_sl h)
  have hnb : (n : Int) < 100000 := by omega
  clear hn hml
  go_enter Try.func30, Try.ntmps30
  go_upto_region 1 with fail
  have hKS : Keeps (fun w' : World => Sl w' a n c l) := fun w w' h b => h.after b
  by_cases h32 : n = 32
  · subst h32
    refine wp_region_U (w := w) (fun w' : World => Sl w' a 32 c l) rfl h.drew ?_
    refine wpU_val 0 hKS rfl (by kernel_rfl) (by kernel_rfl) (by kernel_rfl) rfl (fun _ _ _ _ h => h) (.slice a 32 c) (fun w' h => by simp [go_sem]) ?_
    simp only [Act.put, List.setIfInBounds_toArray, List.set_cons_zero, List.set_cons_succ]
    refine wpU_val 1 hKS rfl (by kernel_rfl) (by kernel_rfl) (by kernel_rfl) rfl (fun _ _ _ _ h => h) (.int .i64 32) (fun w' h => by simp [go_sem]) ?_
    simp only [Act.put, List.setIfInBounds_toArray, List.set_cons_zero, List.set_cons_succ]
    refine wpU_val 2 hKS rfl (by kernel_rfl) (by kernel_rfl) (by kernel_rfl) rfl (fun _ _ _ _ h => h) (.bool true) (fun w' h => by simp [go_sem]) ?_
    simp only [Act.put, List.setIfInBounds_toArray, List.set_cons_zero, List.set_cons_succ]
    refine wpU_val 3 hKS rfl (by kernel_rfl) (by kernel_rfl) (by kernel_rfl) rfl (fun _ _ _ _ h => h) (.bool true) (fun w' h => by simp [go_sem]) ?_
    simp only [Act.put, List.setIfInBounds_toArray, List.set_cons_zero, List.set_cons_succ]
    refine wpU_val 4 hKS rfl (by kernel_rfl) (by kernel_rfl) (by kernel_rfl) rfl (fun _ _ _ _ h => h) (.slice a 32 c) (fun w' h => by simp [go_sem]) ?_
    simp only [Act.put, List.setIfInBounds_toArray, List.set_cons_zero, List.set_cons_succ]
    refine wpU_val 7 hKS rfl (by kernel_rfl) (by kernel_rfl) (by kernel_rfl) rfl (fun _ _ _ _ h => h) (.slice a 32 c) (fun w' h => by simp [go_sem]) ?_
    simp only [Act.put, List.setIfInBounds_toArray, List.set_cons_zero, List.set_cons_succ]
    refine wpU_val 8 hKS rfl (by kernel_rfl) (by kernel_rfl) (by kernel_rfl) rfl (fun _ _ _ _ h => h) (.string ⟨l.toArray⟩) (fun w' h => by simp [go_sem, HCV.out w' h]) ?_
    simp only [Act.put, List.setIfInBounds_toArray, List.set_cons_zero, List.set_cons_succ]
    refine wpU_one 5 rfl (by kernel_rfl) rfl ?_
    intro v1 b1 sS
    refine wp_callR 28 #[.slice a 32 c] (by simp [go_sem]) _ (HR.out _ sS) ?_
    rintro e v2 ⟨a2, c2, rfl, hs2, hb⟩
    refine ⟨_, rfl, hKS _ _ sS hb, ?_⟩
    simp only [Act.put, List.setIfInBounds_toArray, List.set_cons_zero, List.set_cons_succ]
    have HC2 := Lib.hid (fun w' (b : Below v2.heap.size v2 w') => conv_sl (hs2.after b))
    rw [leBytes_len] at HC2 ⊢
    refine wpU_oneval 6 rfl (by kernel_rfl) rfl (.string ⟨(leBytes (leNat l % LL) 32).toArray⟩) (fun w1 b1 s1 => by simp [go_sem, HC2.out w1 b1]) ?_
    simp only [Act.put, List.setIfInBounds_toArray, List.set_cons_zero, List.set_cons_succ]
    refine wpU_val 9 hKS rfl (by kernel_rfl) (by kernel_rfl) (by kernel_rfl) rfl (fun _ _ _ _ h => h) (.bool (decide (leBytes (leNat l % LL) 32 = l))) (fun w' h => by simp [go_sem, str_eq]) ?_
    simp only [Act.put, List.setIfInBounds_toArray, List.set_cons_zero, List.set_cons_succ]
    refine wpU_val 10 hKS rfl (by kernel_rfl) (by kernel_rfl) (by kernel_rfl) rfl (fun _ _ _ _ h => h) (.bool (decide (leBytes (leNat l % LL) 32 = l))) (fun w' h => by simp [go_sem]) ?_
    simp only [Act.put, List.setIfInBounds_toArray, List.set_cons_zero, List.set_cons_succ]
    refine wpU_val 11 hKS rfl (by kernel_rfl) (by kernel_rfl) (by kernel_rfl) rfl (fun _ _ _ _ h => h) (.bool (decide (leBytes (leNat l % LL) 32 = l))) (fun w' h => by simp [go_sem]) ?_
    simp only [Act.put, List.setIfInBounds_toArray, List.set_cons_zero, List.set_cons_succ]
    refine wpU_done (by kernel_rfl) ?_
    intro v3 b3 s3
    have hB : Below w.heap.size w v3 := (((Below.refl w.heap.size w).drew.trans b1).trans (hb.mono b1.size)).trans (b3.mono (Nat.le_trans b1.size hb.size))
    clear s3 sS hs2 HC2 hb b1 b3
    generalize decide (leBytes (leNat l % LL) 32 = l) = r at *
    go_wp2_with fail
    go_ret
    exact ⟨by rw [HM.out trivial]; rfl, hB⟩
  · have hne : ¬ (n : Int) = 32 := by omega
    refine wp_region_U (w := w) (fun w' : World => Sl w' a n c l) rfl h.drew ?_
    refine wpU_val 0 hKS rfl (by kernel_rfl) (by kernel_rfl) (by kernel_rfl) rfl (fun _ _ _ _ h => h) (.slice a n c) (fun w' h => by simp [go_sem]) ?_
    simp only [Act.put, List.setIfInBounds_toArray, List.set_cons_zero, List.set_cons_succ]
    refine wpU_val 1 hKS rfl (by kernel_rfl) (by kernel_rfl) (by kernel_rfl) rfl (fun _ _ _ _ h => h) (.int .i64 n) (fun w' h => by simp [go_sem]) ?_
    simp only [Act.put, List.setIfInBounds_toArray, List.set_cons_zero, List.set_cons_succ]
    refine wpU_val 2 hKS rfl (by kernel_rfl) (by kernel_rfl) (by kernel_rfl) rfl (fun _ _ _ _ h => h) (.bool false) (fun w' h => by simp [go_sem]; omega) ?_
    simp only [Act.put, List.setIfInBounds_toArray, List.set_cons_zero, List.set_cons_succ]
    refine wpU_val 3 hKS rfl (by kernel_rfl) (by kernel_rfl) (by kernel_rfl) rfl (fun _ _ _ _ h => h) (.bool false) (fun w' h => by simp [go_sem]) ?_
    simp only [Act.put, List.setIfInBounds_toArray, List.set_cons_zero, List.set_cons_succ]
    refine wpU_skip 4 hKS rfl (by kernel_rfl) (by kernel_rfl) (by kernel_rfl) rfl (fun _ _ _ _ h => h) ?_
    simp only [Act.put, List.setIfInBounds_toArray, List.set_cons_zero, List.set_cons_succ]
    refine wpU_skip 5 hKS rfl (by kernel_rfl) (by kernel_rfl) (by kernel_rfl) rfl (fun _ _ _ _ h => h) ?_
    simp only [Act.put, List.setIfInBounds_toArray, List.set_cons_zero, List.set_cons_succ]
    refine wpU_skip 6 hKS rfl (by kernel_rfl) (by kernel_rfl) (by kernel_rfl) rfl (fun _ _ _ _ h => h) ?_
    simp only [Act.put, List.setIfInBounds_toArray, List.set_cons_zero, List.set_cons_succ]
    refine wpU_skip 7 hKS rfl (by kernel_rfl) (by kernel_rfl) (by kernel_rfl) rfl (fun _ _ _ _ h => h) ?_
    simp only [Act.put, List.setIfInBounds_toArray, List.set_cons_zero, List.set_cons_succ]
    refine wpU_skip 8 hKS rfl (by kernel_rfl) (by kernel_rfl) (by kernel_rfl) rfl (fun _ _ _ _ h => h) ?_
    simp only [Act.put, List.setIfInBounds_toArray, List.set_cons_zero, List.set_cons_succ]
    refine wpU_skip 9 hKS rfl (by kernel_rfl) (by kernel_rfl) (by kernel_rfl) rfl (fun _ _ _ _ h => h) ?_
    simp only [Act.put, List.setIfInBounds_toArray, List.set_cons_zero, List.set_cons_succ]
    refine wpU_val 10 hKS rfl (by kernel_rfl) (by kernel_rfl) (by kernel_rfl) rfl (fun _ _ _ _ h => h) (.bool false) (fun w' h => by simp [go_sem]) ?_
    simp only [Act.put, List.setIfInBounds_toArray, List.set_cons_zero, List.set_cons_succ]
    refine wpU_val 11 hKS rfl (by kernel_rfl) (by kernel_rfl) (by kernel_rfl) rfl (fun _ _ _ _ h => h) (.bool false) (fun w' h => by simp [go_sem]) ?_
    simp only [Act.put, List.setIfInBounds_toArray, List.set_cons_zero, List.set_cons_succ]
    refine wpU_done (by kernel_rfl) ?_
    intro v3 b3 s3
    have hB : Below w.heap.size w v3 := (Below.refl w.heap.size w).drew.trans b3
    clear s3 b3 h
    go_wp2_with fail
    go_ret
    exact ⟨by rw [HM0.out h32]; rfl, hB⟩

/-- the order's bytes -/
def LB : List UInt8 := [0xed, 0xd3, 0xf5, 0x5c, 0x1a, 0x63, 0x12, 0x58, 0xd6, 0x9c, 0xf7, 0xa2, 0xde, 0xf9, 0xde, 0x14, 0, 0, 0, 0, 0, 0, 0, 0, 0, 0, 0, 0, 0, 0, 0, 16]
theorem LB_val : leNat LB = LL := by decide +kernel
theorem sl_lit (w : World) (e : TypeId) (l : List UInt8) (h : l.length ≤ maxLen) : Sl (w.alloc (.cells (lCells l).toArray e)) (some ⟨w.heap.size, 0, none⟩) l.length l.length l := by
  refine ⟨rfl, Nat.le_refl _, h, (fun h => by cases h), .inr ⟨_, 0, rfl, fun i hi => ?_⟩⟩
  rw [Nat.zero_add, World.cell?_alloc_mark]
  simp [lCells, hi]
theorem eq_same (n : Nat) (w : World) : (Op.equalIn 10000 40 (.agg (bts n)) (.agg (bts n))).run Try.prog w = .ok true w := by
  unfold bts
  rw [equal_arr w 40 5 32 9999 (byN n) (byN n) _ _ (by kernel_rfl) (fun a b => run_equalIn_int w 9998 _ _ .u8 a b (by kernel_rfl)) (by simp [go_sem]) (by simp [go_sem]) (fun i hi => lCells_leBytes_get n 32 i hi) (fun i hi => lCells_leBytes_get n 32 i hi)]
  simp
theorem bts_zero : bts 0 = #[Value.int .u8 0, Value.int .u8 0, Value.int .u8 0, Value.int .u8 0, Value.int .u8 0, Value.int .u8 0, Value.int .u8 0, Value.int .u8 0, Value.int .u8 0, Value.int .u8 0, Value.int .u8 0, Value.int .u8 0, Value.int .u8 0, Value.int .u8 0, Value.int .u8 0, Value.int .u8 0, Value.int .u8 0, Value.int .u8 0, Value.int .u8 0, Value.int .u8 0, Value.int .u8 0, Value.int .u8 0, Value.int .u8 0, Value.int .u8 0, Value.int .u8 0, Value.int .u8 0, Value.int .u8 0, Value.int .u8 0, Value.int .u8 0, Value.int .u8 0, Value.int .u8 0, Value.int .u8 0] := by kernel_rfl

/-- a value and a new world -/
theorem wpList_valw {P : Program} {ops : Array Oper} {rest : List Oper} {o : Oper} {a : Act} {w : World} {Q : Exit → Act → World → Prop} (hgd : Region.wanted o (yielded ops a.tmps) = true) (v : Value) (w' : World)
    (hr : (execOp a.eval o).run P w = .ok (.value v) w') (h : wpList P ops Q rest (a.put o.dst v) w') : wpList P ops Q (o :: rest) a w :=
  wpList_want hgd fun _ hK => by
    unfold Oper.wp
    rw [hr]
    exact hK _ _ h

set_option maxRecDepth 100000 in
set_option maxHeartbeats 4000000 in
theorem awake6_any (w : World) : Calls Try.prog 26 #[] w fun e w' => e = .returned (.bool true) ∧ Below w.heap.size w w' := by
  have hs := sl_lit w 5 LB (by decide)
  have hB : Below w.heap.size w (w.alloc (.cells (lCells LB).toArray 5)) := (Below.refl _ _).alloc (Nat.le_refl _) _
  have HI := Lib.hid (fun w : World => run_index_array (P := Try.prog) (w := w) 40 5 32 (bts 7) .i64 0 (.int .u8 7) Try.underlying40 (by omega) (by kernel_rfl) (by simp [go_sem]) (by simp [go_sem]))
  have HE := Lib.hid (fun w => eq_same 0 w)
  have HR := Lib.hid (fun a w (h : Sl w a 32 32 LB) => reduce_any a 32 32 LB w h)
  have HR7 := Lib.hid (fun a w (h : Sl w a 1 1 [7]) => reduce_any a 1 1 [7] w h)
  rw [show leNat LB % LL = 0 by rw [LB_val, Nat.mod_self]] at HR
  rw [show leNat [7] % LL = 7 by decide +kernel] at HR7
  have HZ := Lib.hid bts_zero
  obtain ⟨Z, hZ⟩ : ∃ Z, Z = bts 0 := ⟨_, rfl⟩
  obtain ⟨Y, hY⟩ : ∃ Y, Y = bts 7 := ⟨_, rfl⟩
  rw [← hZ] at HE HR HZ
  rw [← hY] at HI HR7
  clear hZ hY
  go_enter Try.func26, Try.ntmps26
  go_upto_region 2 with fail
  change Code.wp _ _ _ _ (w.alloc (.cells (lCells LB).toArray 5))
  change Sl _ _ 32 32 LB at hs
  generalize (w.alloc (.cells (lCells LB).toArray 5)) = W at *
  go_step
  refine wpList_value rfl (.slice (some ⟨w.heap.size, 0, none⟩) 32 32) (by simp [go_sem]) ?_
  simp only [Act.put, List.setIfInBounds_toArray, List.set_cons_zero, List.set_cons_succ]
  refine wpList_made_call rfl 27 #[.slice (some ⟨w.heap.size, 0, none⟩) 32 32] (by simp [go_sem]) _ (HR.out _ _ hs) ?_
  intro v1 b1
  simp only [Act.put, List.setIfInBounds_toArray, List.set_cons_zero, List.set_cons_succ]
  replace hB := hB.trans (b1.mono hB.size)
  clear b1 hs
  refine wpList_value rfl (.agg Z) (by rw [HZ.out]; simp [go_sem]) ?_
  simp only [Act.put, List.setIfInBounds_toArray, List.set_cons_zero, List.set_cons_succ]
  refine wpList_value rfl (.bool true) (by simp [go_sem, HE.out]) ?_
  simp only [Act.put, List.setIfInBounds_toArray, List.set_cons_zero, List.set_cons_succ]
  refine wpList_value rfl (.bool true) (by simp [go_sem]) ?_
  simp only [Act.put, List.setIfInBounds_toArray, List.set_cons_zero, List.set_cons_succ]
  refine wpList_valw rfl (.slice (some ⟨v1.heap.size, 0, none⟩) 1 1) (v1.alloc (.cells (lCells [7]).toArray 5)) (by simp [go_sem]; rfl) ?_
  simp only [Act.put, List.setIfInBounds_toArray, List.set_cons_zero, List.set_cons_succ]
  have hs7 := sl_lit v1 5 [7] (by decide)
  change Sl _ _ 1 1 [7] at hs7
  replace hB := hB.alloc hB.size (.cells (lCells [7]).toArray 5)
  refine wpList_made_call rfl 27 #[.slice (some ⟨v1.heap.size, 0, none⟩) 1 1] (by simp [go_sem]) _ (HR7.out _ _ hs7) ?_
  intro v2 b2
  simp only [Act.put, List.setIfInBounds_toArray, List.set_cons_zero, List.set_cons_succ]
  replace hB := hB.trans (b2.mono hB.size)
  clear b2 hs7
  refine wpList_value rfl (.int .u8 7) (by have := HI.out v2; simp [go_sem] at this ⊢; simp [this]) ?_
  simp only [Act.put, List.setIfInBounds_toArray, List.set_cons_zero, List.set_cons_succ]
  refine wpList_value rfl (.bool true) (by simp [go_sem]) ?_
  simp only [Act.put, List.setIfInBounds_toArray, List.set_cons_zero, List.set_cons_succ]
  refine wpList_value rfl (.bool true) (by simp [go_sem]) ?_
  simp only [Act.put, List.setIfInBounds_toArray, List.set_cons_zero, List.set_cons_succ]
  refine wpList_value rfl (.bool true) (by simp [go_sem]) ?_
  simp only [Act.put, List.setIfInBounds_toArray, List.set_cons_zero]
  go_wp2_with fail
  go_ret
  exact ⟨rfl, hB⟩
end Go.Proofs.Ytddgkoheihlbdaa

/- The document's Great; the walk of CrlCancels. -/
import Derived.Test.YticjhogofoffmaaDoorCr8
namespace Go.Proofs.YticjhogofoffmaaDoor
open Go.RowKit
set_option linter.unusedSimpArgs false
set_option linter.unusedVariables false

section
variable {P : Program} {ops : Array Oper} {W : World} {B : Nat}
theorem wpQ_callB {Q : Act → Prop} {a : Act} {o : Oper} {rest : List Oper} (hgd : Region.wanted o (yielded ops a.tmps) = true) (f : FuncId) (args : Array Value) (hr : ∀ w, (execOp a.eval o).run P w = .ok (.enter f args) w) (v : Value) (hB : B ≤ W.heap.size)
    (hc : ∀ w, Below B W w → Calls P f args w fun e w' => e = .returned v ∧ Below w.heap.size w w')
    (h : wpQuiet P ops (fun w' => Below B W w') Q rest (a.put o.dst v)) : wpQuiet P ops (fun w' => Below B W w') Q (o :: rest) a :=
  wpQ_plain hgd ⟨v, fun w hw => by
    unfold Oper.quietAt
    rw [hr w]
    exact ⟨rfl, (hc w hw).mono fun e w'' ⟨he, hb⟩ => ⟨he, hw.trans (hb.mono (by have := hw.size; omega))⟩⟩, h⟩
end
def greatC (m n : Nat) (ls : List (List UInt8)) : Bool := decide (200 < m) || (decide (40 < n) || ls.any (fun l => decide (200 < l.length)))

set_option maxHeartbeats 8000000 in
set_option maxRecDepth 100000 in
theorem great_crl (s : Bool) (ka : Option Addr) (kn kc : Nat) (kl : List UInt8) (a : Option Addr) (n c : Nat) (Z : Nat → S3) (ls : List (List UInt8)) (p : Bool) (f : Int) (q : Bool) (u : Int) (w : World) (hk : Sl w ka kn kc kl) (hr : RowS w a n c Z ls) :
    Calls Tryd.prog 7 #[.agg #[.bool s, .slice ka kn kc, .slice a n c, .bool p, .int .i64 f, .bool q, .int .i64 u]] w fun e w' => e = .returned (.bool (greatC kn n ls)) ∧ Below w.heap.size w w' := by
  have B0 : Below w.heap.size w (w.alloc (.cells #[.bool s, .slice ka kn kc, .slice a n c, .bool p, .int .i64 f, .bool q, .int .i64 u] 29)) := (Below.refl _ _).alloc (Nat.le_refl _) _
  have K : Box (w.alloc (.cells #[.bool s, .slice ka kn kc, .slice a n c, .bool p, .int .i64 f, .bool q, .int .i64 u] 29)) w.heap.size 29 #[.bool s, .slice ka kn kc, .slice a n c, .bool p, .int .i64 f, .bool q, .int .i64 u] := Box.new _ _ _
  have HR := Lib.hid (hr.after B0)
  have HN := Lib.hid hr.2.2.2.1
  have hle : n ≤ c := hr.1
  have hcm : c ≤ maxLen := hr.2.1
  unfold maxLen at hcm
  have hkc : kn ≤ kc := hk.2.1
  have hkm : kc ≤ maxLen := hk.2.2.1
  unfold maxLen at hkm
  clear hr hk
  obtain ⟨z, hz⟩ : ∃ z, z = greatC kn n ls := ⟨_, rfl⟩
  rw [← hz]
  unfold greatC at hz
  have HZ := Lib.hid hz
  clear hz
  go_enter Tryd.func7, Tryd.ntmps7
  go_upto_region 1 with fail
  change Code.wp _ _ _ _ (w.alloc (.cells #[.bool s, .slice ka kn kc, .slice a n c, .bool p, .int .i64 f, .bool q, .int .i64 u] 29))
  replace K := Lib.hid K
  generalize (w.alloc (.cells #[.bool s, .slice ka kn kc, .slice a n c, .bool p, .int .i64 f, .bool q, .int .i64 u] 29)) = w0 at *
  have k1 := K.out.cell 1 rfl
  have k2 := K.out.cell 2 rfl
  by_cases h1 : 200 < kn
  · go_wp2_with fail
    go_ret
    exact ⟨by rw [HZ.out]; simp [h1], B0⟩
  by_cases h2 : 40 < n
  · go_wp2_with fail
    go_ret
    exact ⟨by rw [HZ.out]; simp [h2], B0⟩
  go_wp2_with fail
  go_loopw [3, 18] (fun s i wr => ∃ k : Nat, k ≤ n ∧ i = .int .i64 k ∧ (ls.take k).any (fun l => decide (200 < l.length)) = false ∧ wr = w0) (fun _ i _ => n - (intOf i).toNat)
  case atStart => exact ⟨0, Nat.zero_le _, rfl, rfl, rfl⟩
  case round =>
    obtain ⟨k, hkn, rfl, hany, rfl⟩ := hrel
    have HA := Lib.hid hany
    clear hany
    by_cases hlt : k < n
    · obtain ⟨b, o, rfl, hcl⟩ := HR.out.cell hlt
      have hkl : k < ls.length := by have := HN.out; omega
      have hzn := HR.out.2.2.2.2.2 k hkl
      have hzl : (Z k).n = (ls[k]'hkl).length := hzn.1
      have hzc : (Z k).n ≤ (Z k).c := hzn.2.1
      have hzm : (Z k).c ≤ maxLen := hzn.2.2.1
      unfold maxLen at hzm
      have HL := Lib.hid hzl
      clear hzl hzn
      by_cases h3 : 200 < (Z k).n
      · go_wp2_with fail
        go_ret
        exact ⟨by rw [HZ.out, any_at _ ls k hkl (by rw [← HL.out]; exact decide_eq_true h3)]; simp, B0⟩
      · go_wp2_with fail
        go_roundw
        case rel => exact ⟨k + 1, by omega, by go_num, by rw [any_snoc _ _ _ hkl, HA.out, ← HL.out]; simp; omega, trivial⟩
        case measure => simp [intOf]; omega
    · go_wp2_with fail
      go_ret
      have hk : k = ls.length := by have := HN.out; omega
      have := HA.out
      rw [hk, List.take_length] at this
      exact ⟨by rw [HZ.out, this]; simp; omega, B0⟩

set_option maxHeartbeats 8000000 in
set_option maxRecDepth 100000 in
theorem CrlCancels_walk (s : Bool) (ka : Option Addr) (kn kc : Nat) (kl : List UInt8) (a : Option Addr) (n c : Nat) (Z : Nat → S3) (ls : List (List UInt8)) (p : Bool) (f : Int) (q : Bool) (u : Int) (a2 : Option Addr) (n2 c2 : Nat) (l2 : List UInt8) (t : Int) (w : World) (ht : Tab w) (hk : Sl w ka kn kc kl) (hr : RowS w a n c Z ls) (hs2 : Sl w a2 n2 c2 l2) (hwt : (Lit.int .i64 t).wf = true) :
    Calls Tryd.prog 3 #[.agg #[.bool s, .slice ka kn kc, .slice a n c, .bool p, .int .i64 f, .bool q, .int .i64 u], .slice a2 n2 c2, .int .i64 t] w fun e w' => e = .returned (.bool true) ∧ Below w.heap.size w w' := by
  have B0 : Below w.heap.size w (w.alloc (.cells #[.bool s, .slice ka kn kc, .slice a n c, .bool p, .int .i64 f, .bool q, .int .i64 u] 29)) := (Below.refl _ _).alloc (Nat.le_refl _) _
  have K : Box (w.alloc (.cells #[.bool s, .slice ka kn kc, .slice a n c, .bool p, .int .i64 f, .bool q, .int .i64 u] 29)) w.heap.size 29 #[.bool s, .slice ka kn kc, .slice a n c, .bool p, .int .i64 f, .bool q, .int .i64 u] := Box.new _ _ _
  have HR := Lib.hid (hr.after B0)
  have HS := Lib.hid (hs2.after B0)
  have HT := Lib.hid (ht.after B0)
  have CG := Lib.hid (great_crl s ka kn kc kl a n c Z ls p f q u (w.alloc (.cells #[.bool s, .slice ka kn kc, .slice a n c, .bool p, .int .i64 f, .bool q, .int .i64 u] 29)) (hk.after B0) (hr.after B0))
  have hle2 : n2 ≤ c2 := hs2.2.1
  have hm2 : c2 ≤ maxLen := hs2.2.2.1
  unfold maxLen at hm2
  clear hr hk hs2 ht
  obtain ⟨z, hz⟩ : ∃ z, z = greatC kn n ls := ⟨_, rfl⟩
  rw [← hz] at CG
  clear hz
  go_enter Tryd.func3, Tryd.ntmps3
  go_upto_region 1 with fail
  change Code.wp _ _ _ _ (w.alloc (.cells #[.bool s, .slice ka kn kc, .slice a n c, .bool p, .int .i64 f, .bool q, .int .i64 u] 29))
  replace K := Lib.hid K
  generalize (w.alloc (.cells #[.bool s, .slice ka kn kc, .slice a n c, .bool p, .int .i64 f, .bool q, .int .i64 u] 29)) = w0 at *
  go_wp2_with (refine wpList_load_box rfl 29 _ rfl K.out (by rfl) Tryd.underlying29 rfl (by kernel_rfl) ?_)
  refine CG.out.mono ?_
  rintro e w1 ⟨rfl, hb1⟩
  have B1 := B0.trans (hb1.mono B0.size)
  have CA := Lib.hid (awake_any w1 (HT.out.after hb1))
  have K1 := Lib.hid (K.out.after hb1)
  have HR1 := Lib.hid (HR.out.after hb1)
  have HS1 := Lib.hid (HS.out.after hb1)
  have HT1 := Lib.hid (HT.out.after hb1)
  clear CG K HR HS HT B0 hb1
  cases z with
  | true =>
    go_wp2_with fail
    refine CA.out.mono ?_
    rintro e w2 ⟨rfl, hb2⟩
    go_wp2_with fail
    go_ret
    exact ⟨rfl, B1.trans (hb2.mono B1.size)⟩
  | false =>
    by_cases h2 : 200 < n2
    · go_wp2_with fail
      refine CA.out.mono ?_
      rintro e w2 ⟨rfl, hb2⟩
      go_wp2_with fail
      go_ret
      exact ⟨rfl, B1.trans (hb2.mono B1.size)⟩
    · clear CA
      go_upto_region 3 with fail
      have hkb : w.heap.size < w1.heap.size := K1.out.lt
      refine wp_region_made w1.heap.size w1 rfl (by kernel_rfl) (Below.refl _ _) ?_
      refine wpQ_load_box rfl 29 _ rfl K1.out (by rfl) hkb Tryd.underlying29 rfl (by kernel_rfl) ?_
      simp only [Act.put, List.setIfInBounds_toArray, List.set_cons_zero, List.set_cons_succ]
      refine wpQ_run rfl (.slice a2 n2 c2) (fun w' hw => by simp [go_sem]) ?_
      simp only [Act.put, List.setIfInBounds_toArray, List.set_cons_zero, List.set_cons_succ]
      refine wpQ_run rfl (.int .i64 t) (fun w' hw => by simp [go_sem]) ?_
      simp only [Act.put, List.setIfInBounds_toArray, List.set_cons_zero, List.set_cons_succ]
      refine wpQ_callB rfl 9 #[.agg #[.bool s, .slice ka kn kc, .slice a n c, .bool p, .int .i64 f, .bool q, .int .i64 u], .slice a2 n2 c2, .int .i64 t] (fun w' => by simp [go_sem]) (.bool (canB ls l2 p f q u t)) (Nat.le_refl _) (fun w' hw => cancels_any s ka kn kc a n c Z ls p f q u a2 n2 c2 l2 t w' (HR1.out.after hw) (HS1.out.after hw)) ?_
      simp only [Act.put, List.setIfInBounds_toArray, List.set_cons_zero, List.set_cons_succ]
      refine wpQ_load_box rfl 29 _ rfl K1.out (by rfl) hkb Tryd.underlying29 rfl (by kernel_rfl) ?_
      simp only [Act.put, List.setIfInBounds_toArray, List.set_cons_zero, List.set_cons_succ]
      refine wpQ_run rfl (.slice a2 n2 c2) (fun w' hw => by simp [go_sem]) ?_
      simp only [Act.put, List.setIfInBounds_toArray, List.set_cons_zero, List.set_cons_succ]
      refine wpQ_run rfl (.int .i64 t) (fun w' hw => by simp [go_sem]) ?_
      simp only [Act.put, List.setIfInBounds_toArray, List.set_cons_zero, List.set_cons_succ]
      refine wpQ_callB rfl 10 #[.agg #[.bool s, .slice ka kn kc, .slice a n c, .bool p, .int .i64 f, .bool q, .int .i64 u], .slice a2 n2 c2, .int .i64 t] (fun w' => by simp [go_sem]) (.bool (canB ls l2 p f q u t)) (Nat.le_refl _) (fun w' hw => refCancels_any s ka kn kc a n c Z ls p f q u a2 n2 c2 l2 t w' (HR1.out.after hw) (HS1.out.after hw)) ?_
      simp only [Act.put, List.setIfInBounds_toArray, List.set_cons_zero, List.set_cons_succ]
      refine wpQ_run rfl (.bool true) (fun w' hw => by simp [go_sem]) ?_
      simp only [Act.put, List.setIfInBounds_toArray, List.set_cons_zero, List.set_cons_succ]
      refine wpQ_run rfl (.bool true) (fun w' hw => by simp [go_sem]) ?_
      simp only [Act.put, List.setIfInBounds_toArray, List.set_cons_zero, List.set_cons_succ]
      refine wpQ_callB rfl 8 #[] (fun w' => by simp [go_sem]) (.bool true) (Nat.le_refl _) (fun w' hw => awake_any w' (HT1.out.after hw)) ?_
      simp only [Act.put, List.setIfInBounds_toArray, List.set_cons_zero, List.set_cons_succ]
      refine wpQ_run rfl (.bool true) (fun w' hw => by simp [go_sem]) ?_
      simp only [Act.put, List.setIfInBounds_toArray, List.set_cons_zero, List.set_cons_succ]
      refine wpQ_run rfl (.bool true) (fun w' hw => by simp [go_sem]) ?_
      simp only [Act.put, List.setIfInBounds_toArray, List.set_cons_zero, List.set_cons_succ]
      intro w2 hb2
      go_wp2_with fail
      go_ret
      exact ⟨rfl, B1.trans (hb2.mono B1.size)⟩


end Go.Proofs.YticjhogofoffmaaDoor

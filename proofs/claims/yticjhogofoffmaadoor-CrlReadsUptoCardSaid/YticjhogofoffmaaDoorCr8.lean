/- The document's Cancels and Great: what they compute. -/
import Derived.Test.YticjhogofoffmaaDoorCr7
namespace Go.Proofs.YticjhogofoffmaaDoor
open Go.RowKit
set_option linter.unusedSimpArgs false
set_option linter.unusedVariables false

set_option maxHeartbeats 8000000 in
set_option maxRecDepth 100000 in
theorem refCancels_any (s : Bool) (ka : Option Addr) (kn kc : Nat) (a : Option Addr) (n c : Nat) (Z : Nat → S3) (ls : List (List UInt8)) (p : Bool) (f : Int) (q : Bool) (u : Int) (a2 : Option Addr) (n2 c2 : Nat) (l2 : List UInt8) (t : Int) (w : World) (hr : RowS w a n c Z ls) (hs2 : Sl w a2 n2 c2 l2) :
    Calls Tryd.prog 10 #[.agg #[.bool s, .slice ka kn kc, .slice a n c, .bool p, .int .i64 f, .bool q, .int .i64 u], .slice a2 n2 c2, .int .i64 t] w fun e w' => e = .returned (.bool (canB ls l2 p f q u t)) ∧ Below w.heap.size w w' := by
  have B0 : Below w.heap.size w (w.alloc (.cells #[.bool s, .slice ka kn kc, .slice a n c, .bool p, .int .i64 f, .bool q, .int .i64 u] 29)) := (Below.refl _ _).alloc (Nat.le_refl _) _
  have K : Box (w.alloc (.cells #[.bool s, .slice ka kn kc, .slice a n c, .bool p, .int .i64 f, .bool q, .int .i64 u] 29)) w.heap.size 29 #[.bool s, .slice ka kn kc, .slice a n c, .bool p, .int .i64 f, .bool q, .int .i64 u] := Box.new _ _ _
  have HR := Lib.hid (hr.after B0)
  have HS := Lib.hid (hs2.after B0)
  have HN := Lib.hid hr.2.2.2.1
  have hle : n ≤ c := hr.1
  have hcm : c ≤ maxLen := hr.2.1
  unfold maxLen at hcm
  clear hr hs2
  have C := Lib.hid (fun w' => refIn_any p f q u t w')
  unfold canB
  obtain ⟨r, hrr⟩ : ∃ r, r = winIn p f q u t := ⟨_, rfl⟩
  rw [← hrr]
  simp only [← hrr] at C
  clear hrr
  go_enter Tryd.func10, Tryd.ntmps10
  go_upto_region 1 with fail
  change Code.wp _ _ _ _ (w.alloc (.cells #[.bool s, .slice ka kn kc, .slice a n c, .bool p, .int .i64 f, .bool q, .int .i64 u] 29))
  replace K := Lib.hid K
  generalize (w.alloc (.cells #[.bool s, .slice ka kn kc, .slice a n c, .bool p, .int .i64 f, .bool q, .int .i64 u] 29)) = w0 at *
  have k2 := K.out.cell 2 rfl
  go_wp2_with fail
  go_loopw [7, 11] (fun s i wr => ∃ k : Nat, k ≤ n ∧ i = .int .i64 k ∧ (r && (ls.take k).any (· == l2)) = false ∧ Below w0.heap.size w0 wr) (fun _ i _ => n - (intOf i).toNat)
  case atStart => exact ⟨0, Nat.zero_le _, rfl, by simp, Below.refl _ _⟩
  case round =>
    obtain ⟨k, hkn, rfl, hany, hb⟩ := hrel
    have HA := Lib.hid hany
    clear hany k2
    by_cases hlt : k < n
    · obtain ⟨b, o, rfl, hcl⟩ := (HR.out.after hb).cell hlt
      have hkl : k < ls.length := by have := HN.out; omega
      have HZ := Lib.hid ((HR.out.2.2.2.2.2 k hkl).after hb)
      have HS2 := Lib.hid (HS.out.after hb)
      have K2 := Lib.hid (K.out.after hb)
      obtain ⟨r2, hr2⟩ : ∃ r2, r2 = (ls[k] == l2) := ⟨_, rfl⟩
      have HR2 := Lib.hid hr2
      have hbl : b < wr.heap.size := cell_lt hcl
      have hk0 : (0 : Int) ≤ k := by omega
      have hk1 : (k : Int) < n := by omega
      have hkb : w.heap.size < wr.heap.size := K2.out.lt
      go_upto_region 4 with fail
      refine wp_region_made wr.heap.size wr rfl (by kernel_rfl) (Below.refl _ _) ?_
      refine wpQ_run rfl (.pointer (some ⟨w.heap.size, 2, none⟩)) (fun w' hw => by simp [go_sem]) ?_
      simp only [Act.put, List.setIfInBounds_toArray, List.set_cons_zero, List.set_cons_succ]
      refine wpQ_run rfl (.slice (some ⟨b, o, none⟩) n c) (fun w' hw => by have := (K2.out.after hw).cell 2 rfl; simp [go_sem, this]) ?_
      simp only [Act.put, List.setIfInBounds_toArray, List.set_cons_zero, List.set_cons_succ]
      refine wpQ_run rfl (.int .i64 k) (fun w' hw => by simp [go_sem]) ?_
      simp only [Act.put, List.setIfInBounds_toArray, List.set_cons_zero, List.set_cons_succ]
      refine wpQ_run rfl (.pointer (some ⟨b, o + k, none⟩)) (fun w' hw => by simp [go_sem, hk0, hk1, hlt]) ?_
      simp only [Act.put, List.setIfInBounds_toArray, List.set_cons_zero, List.set_cons_succ]
      refine wpQ_run rfl (.slice (Z k).a (Z k).n (Z k).c) (fun w' hw => by have := (World.cell?_of_block (a := ⟨b, o + k, none⟩) (hw.block b hbl)).trans hcl; simp [go_sem, this]) ?_
      simp only [Act.put, List.setIfInBounds_toArray, List.set_cons_zero, List.set_cons_succ]
      refine wpQ_run rfl (.string ⟨(ls[k]).toArray⟩) (fun w' hw => by have := conv_sl (HZ.out.after hw); simp [go_sem, this]) ?_
      simp only [Act.put, List.setIfInBounds_toArray, List.set_cons_zero, List.set_cons_succ]
      refine wpQ_run rfl (.slice a2 n2 c2) (fun w' hw => by simp [go_sem]) ?_
      simp only [Act.put, List.setIfInBounds_toArray, List.set_cons_zero, List.set_cons_succ]
      refine wpQ_run rfl (.string ⟨l2.toArray⟩) (fun w' hw => by have := conv_sl (HS2.out.after hw); simp [go_sem, this]) ?_
      simp only [Act.put, List.setIfInBounds_toArray, List.set_cons_zero, List.set_cons_succ]
      refine wpQ_run rfl (.bool r2) (fun w' hw => by rw [hr2]; simp [go_sem]) ?_
      simp only [Act.put, List.setIfInBounds_toArray, List.set_cons_zero, List.set_cons_succ]
      clear hr2
      refine wpQ_run rfl (.bool r2) (fun w' hw => by simp [go_sem]) ?_
      simp only [Act.put, List.setIfInBounds_toArray, List.set_cons_zero, List.set_cons_succ]
      cases r2 with
      | false =>
        refine wpQ_skip rfl ?_
        simp only [Act.put, List.setIfInBounds_toArray, List.set_cons_zero, List.set_cons_succ]
        refine wpQ_skip rfl ?_
        simp only [Act.put, List.setIfInBounds_toArray, List.set_cons_zero, List.set_cons_succ]
        refine wpQ_skip rfl ?_
        simp only [Act.put, List.setIfInBounds_toArray, List.set_cons_zero, List.set_cons_succ]
        refine wpQ_skip rfl ?_
        simp only [Act.put, List.setIfInBounds_toArray, List.set_cons_zero, List.set_cons_succ]
        refine wpQ_run rfl (.bool false) (fun w' hw => by simp [go_sem]) ?_
        simp only [Act.put, List.setIfInBounds_toArray, List.set_cons_zero, List.set_cons_succ]
        intro w1 hb1
        have B1 := hb.trans (hb1.mono hb.size)
        clear HZ HS2 K2 hb hb1 hcl
        go_wp2_with fail
        go_roundw
        case rel => exact ⟨k + 1, by omega, by go_num, by rw [any_snoc _ _ _ hkl]; have h1 := HA.out; have h2 : (ls[k] == l2) = false := HR2.out.symm; revert h1; rw [h2, Bool.or_false]; exact id, B1⟩
        case measure => simp [intOf]; omega
      | true =>
        refine wpQ_run rfl (.pointer (some ⟨w.heap.size, 3, none⟩)) (fun w' hw => by simp [go_sem]) ?_
        simp only [Act.put, List.setIfInBounds_toArray, List.set_cons_zero, List.set_cons_succ]
        refine wpQ_load_mid rfl 27 _ rfl w.heap.size 3 rfl [.bool p, .int .i64 f, .bool q, .int .i64 u] _ (Box.mid K2.out 3 _ (mid4 rfl rfl rfl rfl)) hkb Tryd.underlying27 rfl (by kernel_rfl) ?_
        simp only [Act.put, List.setIfInBounds_toArray, List.set_cons_zero, List.set_cons_succ]
        refine wpQ_run rfl (.int .i64 t) (fun w' hw => by simp [go_sem]) ?_
        simp only [Act.put, List.setIfInBounds_toArray, List.set_cons_zero, List.set_cons_succ]
        refine wpQ_call rfl 11 #[.agg #[.bool p, .int .i64 f, .bool q, .int .i64 u], .int .i64 t] (fun w' => by simp [go_sem]) (.bool r) (Nat.le_refl _) (fun w' => C.out w') ?_
        simp only [Act.put, List.setIfInBounds_toArray, List.set_cons_zero, List.set_cons_succ]
        refine wpQ_run rfl (.bool r) (fun w' hw => by simp [go_sem]) ?_
        simp only [Act.put, List.setIfInBounds_toArray, List.set_cons_zero, List.set_cons_succ]
        intro w1 hb1
        have B1 := hb.trans (hb1.mono hb.size)
        clear HZ HS2 K2 hb hb1 hcl
        cases r with
        | true =>
          go_wp2_with fail
          go_ret
          exact ⟨by rw [any_at (· == l2) ls k hkl HR2.out.symm]; rfl, B0.trans (B1.mono B0.size)⟩
        | false =>
          go_wp2_with fail
          go_roundw
          case rel => exact ⟨k + 1, by omega, by go_num, by simp, B1⟩
          case measure => simp [intOf]; omega
    · go_wp2_with fail
      go_ret
      have hk : k = ls.length := by have := HN.out; omega
      have := HA.out
      rw [hk, List.take_length] at this
      exact ⟨by rw [this]; rfl, B0.trans (hb.mono B0.size)⟩

end Go.Proofs.YticjhogofoffmaaDoor

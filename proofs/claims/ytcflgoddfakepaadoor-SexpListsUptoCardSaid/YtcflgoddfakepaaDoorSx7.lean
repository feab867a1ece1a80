/- The program's put, and what it counts: what they compute. -/
import Derived.Test.YtcflgoddfakepaaDoorSx6
import Derived.Test.YtcflgoddfakepaaDoorWk
namespace Go.Proofs.YtcflgoddfakepaaDoor
open Go.RowKit
set_option linter.unusedSimpArgs false
set_option linter.unusedVariables false

/-- out has been written on -/
def PutP (v : Value) (B : Nat) (l : List UInt8) (w : World) (e : Ending) (w' : World) : Prop :=
  ∃ v', e = .returned v' ∧ OwnB w' B v' l ∧ But (fun k => v.ownBlock = some k) w w' ∧ (∀ k, v'.ownBlock = some k → v.ownBlock = some k ∨ w.heap.size ≤ k)

set_option maxHeartbeats 1000000 in
set_option maxRecDepth 100000 in
theorem put_any (v : Value) (l : List UInt8) (a : Option Addr) (n c : Nat) (lb : List UInt8) (B : Nat) (w : World) (ho : OwnB w B v l) (hB : B ≤ w.heap.size) (hs : Sl w a n c lb) (hi : InB (fun k => v.ownBlock ≠ some k) a n) (ht : Tab w)
    (hn : n ≤ 35184372088832) (hl : l.length ≤ 35184372088832) : Calls Tryd.prog 26 #[v, .slice a n c] w (PutP v B (l ++ textL lb) w) := by
  have HS := Lib.hid hs
  have HL := Lib.hid hs.1
  have HI := Lib.hid hi
  have HO := Lib.hid ho
  have HT := Lib.hid ht
  have hk := numL_len (n : Int) (by omega)
  obtain ⟨d, hd⟩ : ∃ d, d = numL n := ⟨_, rfl⟩
  rw [← hd] at hk
  have HD := Lib.hid hd
  clear hs ho ht hi hd
  go_enter Tryd.func26, Tryd.ntmps26
  go_wp2_with fail
  refine (putLen_any n (by omega) (by omega) _ HT.out).mono ?_
  rintro e w1 ⟨rfl, hb1⟩
  rw [← HD.out]
  have HO1 := Lib.hid (HO.out.after hb1)
  have z1 := hb1.size
  go_upto_region 2 with (refine wpList_append_S3 rfl _ _ rfl rfl HO1.out (l2 := d) rfl (by omega) (by omega) ?_; intro v2 w2 ho2 hg2 hw2)
  have hb2 : But (fun k => v.ownBlock = some k) w w2 := (But.ofBelow hb1).trans (But.ofGrown hg2 (fun k e => e)) (fun k hk => .inl hk)
  have z2 := hb2.size
  have hw2' : ∀ k, v2.ownBlock = some k → v.ownBlock = some k ∨ w.heap.size ≤ k := fun k hk => (hw2 k hk).imp id (fun h => Nat.le_trans z1 h)
  have HO2 := Lib.hid ho2
  have HB2 := Lib.hid hb2
  have HW2 := Lib.hid hw2'
  clear ho2 hb2 hg2 hw2 hw2' HO1 hb1
  go_upto_region 3 with (refine wpList_append_B3 rfl _ _ rfl rfl (OwnG.alloc HO2.out _) (l2 := [58]) rfl (sl_cell1 _ 58 _ rfl) (by simp only [List.length_append]; omega) (by simp; omega) ?_; intro v3 w3 ho3 hg3 hw3)
  have hb3 : But (fun k => v.ownBlock = some k) w w3 := (HB2.out.alloc _).trans (But.ofGrown hg3 (fun k e => e)) (fun k hk => HW2.out k hk)
  have hw3' : ∀ k, v3.ownBlock = some k → v.ownBlock = some k ∨ w.heap.size ≤ k := fun k hk => (hw3 k hk).elim (HW2.out k) (fun h => .inr (by simp at h; omega))
  have HO3 := Lib.hid ho3
  have HB3 := Lib.hid hb3
  have HW3 := Lib.hid hw3'
  have z3 := hb3.size
  clear ho3 hb3 hg3 hw3 hw3' HO2 HB2 HW2
  go_wp2_with (refine wpList_append_B3 rfl _ _ rfl rfl HO3.out (l2 := lb) rfl (HS.out.but HB3.out HI.out (fun k h => h)) (by simp only [List.length_append, List.length_cons, List.length_nil]; omega) (by omega) ?_; intro v4 w4 ho4 hg4 hw4)
  have hb4 : But (fun k => v.ownBlock = some k) w w4 := HB3.out.trans (But.ofGrown hg4 (fun k e => e)) (fun k hk => HW3.out k hk)
  go_ret
  refine ⟨v4, rfl, ?_, hb4, fun k hk => (hw4 k hk).elim (HW3.out k) (fun h => .inr (by omega))⟩
  rwa [show l ++ d ++ [58] ++ lb = l ++ textL lb by unfold textL; rw [HD.out, HL.out]; simp] at ho4

/-- what is added to the sum of bytes -/
theorem textL_length (l : List UInt8) : (textL l).length = (numL l.length).length + 1 + l.length := by simp [textL]; omega

set_option maxHeartbeats 1000000 in
set_option maxRecDepth 100000 in
theorem cbytes_any (g N S : Nat) (a : Option Addr) (n c : Nat) (lb : List UInt8) (w : World) (hg : Box w g 54 #[.int .i64 N, .int .i64 S]) (hn : n ≤ 35184372088832) (hS : S ≤ 35184372088832) (hln : n = lb.length) (ht : Tab w) :
    Calls Tryd.prog 37 #[.pointer (some ⟨g, 0, none⟩), .slice a n c] w fun e w' => e = .returned (.tuple #[]) ∧ Box w' g 54 #[.int .i64 N, .int .i64 (S + (textL lb).length : Nat)] ∧ But (fun k => k = g) w w' := by
  have HG := Lib.hid hg
  have HT := Lib.hid ht
  have hk := numL_len (n : Int) (by omega)
  obtain ⟨d, hd⟩ : ∃ d, d = numL n := ⟨_, rfl⟩
  rw [← hd] at hk
  have HE : Hid (((S + (textL lb).length : Nat) : Int) = (S : Int) + ((d.length : Int) + 1 + (n : Int))) := Lib.hid (by rw [textL_length, ← hln, ← hd]; omega)
  have HD := Lib.hid hd
  have HPL := Lib.hid (fun w1 h => putLen_any n (by omega) (by omega) w1 h)
  rw [← hd] at HPL
  have c1 := hg.cell 1 rfl
  clear hg ht hd hln
  have e1 : IntKind.i64.wrap ((d.length : Int) + 1) = (d.length : Int) + 1 := IntWalk.i64_in _ ⟨by omega, by omega⟩
  have e2 : IntKind.i64.wrap ((d.length : Int) + 1 + (n : Int)) = (d.length : Int) + 1 + (n : Int) := IntWalk.i64_in _ ⟨by omega, by omega⟩
  have e3 : IntKind.i64.wrap ((S : Int) + ((d.length : Int) + 1 + (n : Int))) = (S : Int) + ((d.length : Int) + 1 + (n : Int)) := IntWalk.i64_in _ ⟨by omega, by omega⟩
  have E1 := Lib.hid e1
  have E2 := Lib.hid e2
  have E3 := Lib.hid e3
  clear e1 e2 e3
  go_enter Tryd.func37, Tryd.ntmps37
  go_upto_region 0 with fail
  have hKS : Keeps (fun w' => Box w' g 54 #[.int .i64 N, .int .i64 S] ∧ Tab w') := fun w w' h b => ⟨h.1.after b, h.2.after b⟩
  refine wp_region_W (w := w) [15] (fun w' => Box w' g 54 #[.int .i64 N, .int .i64 S] ∧ Tab w') rfl ⟨HG.out.drew, HT.out.after ((Below.refl _ _).drew)⟩ ?_
  refine wpW_val 0 hKS rfl (by kernel_rfl) (by kernel_rfl) (by kernel_rfl) (by kernel_rfl) rfl (fun _ _ _ _ h => h) (.pointer (some ⟨g, 0, none⟩)) (fun w' h => by simp [go_sem]) ?_
  simp only [Act.put, List.setIfInBounds_toArray, List.set_cons_zero, List.set_cons_succ]
  refine wpW_val 1 hKS rfl (by kernel_rfl) (by kernel_rfl) (by kernel_rfl) (by kernel_rfl) rfl (fun _ _ _ _ h => h) (.pointer (some ⟨g, 0, none⟩)) (fun w' h => by simp [go_sem]) ?_
  simp only [Act.put, List.setIfInBounds_toArray, List.set_cons_zero, List.set_cons_succ]
  refine wpW_val 2 hKS rfl (by kernel_rfl) (by kernel_rfl) (by kernel_rfl) (by kernel_rfl) rfl (fun _ _ _ _ h => h) (.pointer (some ⟨g, 1, none⟩)) (fun w' h => by simp [go_sem]) ?_
  simp only [Act.put, List.setIfInBounds_toArray, List.set_cons_zero, List.set_cons_succ]
  refine wpW_val 3 hKS rfl (by kernel_rfl) (by kernel_rfl) (by kernel_rfl) (by kernel_rfl) rfl (fun _ _ _ _ h => h) (.int .i64 S) (fun w' h => by simp [go_sem, h.1.cell 1 rfl]) ?_
  simp only [Act.put, List.setIfInBounds_toArray, List.set_cons_zero, List.set_cons_succ]
  refine wpW_val 4 hKS rfl (by kernel_rfl) (by kernel_rfl) (by kernel_rfl) (by kernel_rfl) rfl (fun _ _ _ _ h => h) (.slice a n c) (fun w' h => by simp [go_sem]) ?_
  simp only [Act.put, List.setIfInBounds_toArray, List.set_cons_zero, List.set_cons_succ]
  refine wpW_val 5 hKS rfl (by kernel_rfl) (by kernel_rfl) (by kernel_rfl) (by kernel_rfl) rfl (fun _ _ _ _ h => h) (.int .i64 n) (fun w' h => by simp [go_sem]) ?_
  simp only [Act.put, List.setIfInBounds_toArray, List.set_cons_zero, List.set_cons_succ]
  refine wpW_call 6 hKS rfl (by kernel_rfl) (by kernel_rfl) (by kernel_rfl) (by kernel_rfl) rfl (fun _ _ _ _ h => h) 36 #[.int .i64 n] (fun w => by simp [go_sem]) (.string ⟨d.toArray⟩) (fun w' h => HPL.out w' h.2) ?_
  simp only [Act.put, List.setIfInBounds_toArray, List.set_cons_zero, List.set_cons_succ]
  refine wpW_val 7 hKS rfl (by kernel_rfl) (by kernel_rfl) (by kernel_rfl) (by kernel_rfl) rfl (fun _ _ _ _ h => h) (.int .i64 d.length) (fun w' h => by simp [go_sem]; first | done | rfl) ?_
  simp only [Act.put, List.setIfInBounds_toArray, List.set_cons_zero, List.set_cons_succ]
  refine wpW_val 8 hKS rfl (by kernel_rfl) (by kernel_rfl) (by kernel_rfl) (by kernel_rfl) rfl (fun _ _ _ _ h => h) (.int .i64 ((d.length : Int) + 1)) (fun w' h => by simp [go_sem, E1.out]) ?_
  simp only [Act.put, List.setIfInBounds_toArray, List.set_cons_zero, List.set_cons_succ]
  refine wpW_val 9 hKS rfl (by kernel_rfl) (by kernel_rfl) (by kernel_rfl) (by kernel_rfl) rfl (fun _ _ _ _ h => h) (.slice a n c) (fun w' h => by simp [go_sem]) ?_
  simp only [Act.put, List.setIfInBounds_toArray, List.set_cons_zero, List.set_cons_succ]
  refine wpW_val 10 hKS rfl (by kernel_rfl) (by kernel_rfl) (by kernel_rfl) (by kernel_rfl) rfl (fun _ _ _ _ h => h) (.int .i64 n) (fun w' h => by simp [go_sem]) ?_
  simp only [Act.put, List.setIfInBounds_toArray, List.set_cons_zero, List.set_cons_succ]
  refine wpW_val 11 hKS rfl (by kernel_rfl) (by kernel_rfl) (by kernel_rfl) (by kernel_rfl) rfl (fun _ _ _ _ h => h) (.int .i64 ((d.length : Int) + 1 + (n : Int))) (fun w' h => by simp [go_sem, E2.out]) ?_
  simp only [Act.put, List.setIfInBounds_toArray, List.set_cons_zero, List.set_cons_succ]
  refine wpW_val 12 hKS rfl (by kernel_rfl) (by kernel_rfl) (by kernel_rfl) (by kernel_rfl) rfl (fun _ _ _ _ h => h) (.int .i64 ((S : Int) + ((d.length : Int) + 1 + (n : Int)))) (fun w' h => by simp [go_sem, E3.out]) ?_
  simp only [Act.put, List.setIfInBounds_toArray, List.set_cons_zero, List.set_cons_succ]
  refine wpW_val 13 hKS rfl (by kernel_rfl) (by kernel_rfl) (by kernel_rfl) (by kernel_rfl) rfl (fun _ _ _ _ h => h) (.pointer (some ⟨g, 0, none⟩)) (fun w' h => by simp [go_sem]) ?_
  simp only [Act.put, List.setIfInBounds_toArray, List.set_cons_zero, List.set_cons_succ]
  refine wpW_val 14 hKS rfl (by kernel_rfl) (by kernel_rfl) (by kernel_rfl) (by kernel_rfl) rfl (fun _ _ _ _ h => h) (.pointer (some ⟨g, 1, none⟩)) (fun w' h => by simp [go_sem]) ?_
  simp only [Act.put, List.setIfInBounds_toArray, List.set_cons_zero, List.set_cons_succ]
  refine wpW_store_cell 15 rfl (by kernel_rfl) rfl rfl 3 _ _ rfl HG.out.drew 1 rfl rfl (show 1 < 2 by decide) (fun w => by simp [go_sem]) ?_
  intro w1 w2 b1 s1 hbx st
  refine wpU_done (by kernel_rfl) ?_
  intro w3 b3 _
  simp only [Act.put]
  have HB := (((But.refl (fun k => k = g) w).drew.trans (But.ofBelow (S := fun k => k = g) b1) (fun k hk => .inl hk)).trans st (fun k hk => .inl hk)).trans (But.ofBelow (S := fun k => k = g) b3) (fun k hk => .inl hk)
  have hb3 := hbx.after b3
  rw [← HE.out] at hb3
  clear hKS b1 b3 st s1 hbx
  go_end0
  exact ⟨rfl, hb3, HB⟩

end Go.Proofs.YtcflgoddfakepaaDoor

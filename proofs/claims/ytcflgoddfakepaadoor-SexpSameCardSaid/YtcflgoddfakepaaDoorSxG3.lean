/- The program's put, and what it counts: what they compute. The program's right and May: what they compute. The program's Put: what it computes. -/
import Derived.Test.YtcflgoddfakepaaDoorSxG2
import Derived.Deep.LoopGhost
namespace Go.Proofs.YtcflgoddfakepaaDoor
open Go.RowKit
set_option linter.unusedSimpArgs false
set_option linter.unusedVariables false

/-- out has been written on -/
def PutP (v : Value) (B : Nat) (l : List UInt8) (w : World) (e : Ending) (w' : World) : Prop :=
  ∃ v', e = .returned v' ∧ OwnB w' B v' l ∧ But (fun k => v.ownBlock = some k) w w' ∧ (∀ k, v'.ownBlock = some k → v.ownBlock = some k ∨ w.heap.size ≤ k)

set_option maxHeartbeats 1000000 in
set_option maxRecDepth 100000 in
theorem put_any (v : Value) (l : List UInt8) (a : Option Addr) (n c : Nat) (lb : List UInt8) (B : Nat) (w : World) (ho : OwnB w B v l) (hB : B ≤ w.heap.size) (hs : Sl w a n c lb) (hi : InB (fun k => v.ownBlock ≠ some k) a n) (ht : Tab w)
    (hn : n ≤ 35184372088832) (hl : l.length ≤ 35184372088832) : Calls Tryd.prog 26 #[v, .slice a n c] w (PutP v B (l ++ textL lb) w) := by
  have HS := Lib.hid hs
  have HL := Lib.hid hs.1
  have HI := Lib.hid hi
  have HO := Lib.hid ho
  have HT := Lib.hid ht
  have hk := numL_len (n : Int) (by omega)
  obtain ⟨d, hd⟩ : ∃ d, d = numL n := ⟨_, rfl⟩
  rw [← hd] at hk
  have HD := Lib.hid hd
  clear hs ho ht hi hd
  go_enter Tryd.func26, Tryd.ntmps26
  go_wp2_with fail
  refine (putLen_any n (by omega) (by omega) _ HT.out).mono ?_
  rintro e w1 ⟨rfl, hb1⟩
  rw [← HD.out]
  have HO1 := Lib.hid (HO.out.after hb1)
  have z1 := hb1.size
  go_upto_region 2 with (refine wpList_append_S3 rfl _ _ rfl rfl HO1.out (l2 := d) rfl (by omega) (by omega) ?_; intro v2 w2 ho2 hg2 hw2)
  have hb2 : But (fun k => v.ownBlock = some k) w w2 := (But.ofBelow hb1).trans (But.ofGrown hg2 (fun k e => e)) (fun k hk => .inl hk)
  have z2 := hb2.size
  have hw2' : ∀ k, v2.ownBlock = some k → v.ownBlock = some k ∨ w.heap.size ≤ k := fun k hk => (hw2 k hk).imp id (fun h => Nat.le_trans z1 h)
  have HO2 := Lib.hid ho2
  have HB2 := Lib.hid hb2
  have HW2 := Lib.hid hw2'
  clear ho2 hb2 hg2 hw2 hw2' HO1 hb1
  go_upto_region 3 with (refine wpList_append_B3 rfl _ _ rfl rfl (OwnG.alloc HO2.out _) (l2 := [58]) rfl (sl_cell1 _ 58 _ rfl) (by simp only [List.length_append]; omega) (by simp; omega) ?_; intro v3 w3 ho3 hg3 hw3)
  have hb3 : But (fun k => v.ownBlock = some k) w w3 := (HB2.out.alloc _).trans (But.ofGrown hg3 (fun k e => e)) (fun k hk => HW2.out k hk)
  have hw3' : ∀ k, v3.ownBlock = some k → v.ownBlock = some k ∨ w.heap.size ≤ k := fun k hk => (hw3 k hk).elim (HW2.out k) (fun h => .inr (by simp at h; omega))
  have HO3 := Lib.hid ho3
  have HB3 := Lib.hid hb3
  have HW3 := Lib.hid hw3'
  have z3 := hb3.size
  clear ho3 hb3 hg3 hw3 hw3' HO2 HB2 HW2
  go_wp2_with (refine wpList_append_B3 rfl _ _ rfl rfl HO3.out (l2 := lb) rfl (HS.out.but HB3.out HI.out (fun k h => h)) (by simp only [List.length_append, List.length_cons, List.length_nil]; omega) (by omega) ?_; intro v4 w4 ho4 hg4 hw4)
  have hb4 : But (fun k => v.ownBlock = some k) w w4 := HB3.out.trans (But.ofGrown hg4 (fun k e => e)) (fun k hk => HW3.out k hk)
  go_ret
  refine ⟨v4, rfl, ?_, hb4, fun k hk => (hw4 k hk).elim (HW3.out k) (fun h => .inr (by omega))⟩
  rwa [show l ++ d ++ [58] ++ lb = l ++ textL lb by unfold textL; rw [HD.out, HL.out]; simp] at ho4

/-- what is added to the sum of bytes -/
theorem textL_length (l : List UInt8) : (textL l).length = (numL l.length).length + 1 + l.length := by simp [textL]; omega

set_option maxHeartbeats 1000000 in
set_option maxRecDepth 100000 in
theorem cbytes_any (g N S : Nat) (a : Option Addr) (n c : Nat) (lb : List UInt8) (w : World) (hg : Box w g 54 #[.int .i64 N, .int .i64 S]) (hn : n ≤ 35184372088832) (hS : S ≤ 35184372088832) (hln : n = lb.length) (ht : Tab w) :
    Calls Tryd.prog 37 #[.pointer (some ⟨g, 0, none⟩), .slice a n c] w fun e w' => e = .returned (.tuple #[]) ∧ Box w' g 54 #[.int .i64 N, .int .i64 (S + (textL lb).length : Nat)] ∧ But (fun k => k = g) w w' := by
  have HG := Lib.hid hg
  have HT := Lib.hid ht
  have hk := numL_len (n : Int) (by omega)
  obtain ⟨d, hd⟩ : ∃ d, d = numL n := ⟨_, rfl⟩
  rw [← hd] at hk
  have HE : Hid (((S + (textL lb).length : Nat) : Int) = (S : Int) + ((d.length : Int) + 1 + (n : Int))) := Lib.hid (by rw [textL_length, ← hln, ← hd]; omega)
  have HD := Lib.hid hd
  have HPL := Lib.hid (fun w1 h => putLen_any n (by omega) (by omega) w1 h)
  rw [← hd] at HPL
  have c1 := hg.cell 1 rfl
  clear hg ht hd hln
  have e1 : IntKind.i64.wrap ((d.length : Int) + 1) = (d.length : Int) + 1 := IntWalk.i64_in _ ⟨by omega, by omega⟩
  have e2 : IntKind.i64.wrap ((d.length : Int) + 1 + (n : Int)) = (d.length : Int) + 1 + (n : Int) := IntWalk.i64_in _ ⟨by omega, by omega⟩
  have e3 : IntKind.i64.wrap ((S : Int) + ((d.length : Int) + 1 + (n : Int))) = (S : Int) + ((d.length : Int) + 1 + (n : Int)) := IntWalk.i64_in _ ⟨by omega, by omega⟩
  have E1 := Lib.hid e1
  have E2 := Lib.hid e2
  have E3 := Lib.hid e3
  clear e1 e2 e3
  go_enter Tryd.func37, Tryd.ntmps37
  go_upto_region 0 with fail
  have hKS : Keeps (fun w' => Box w' g 54 #[.int .i64 N, .int .i64 S] ∧ Tab w') := fun w w' h b => ⟨h.1.after b, h.2.after b⟩
  refine wp_region_W (w := w) [15] (fun w' => Box w' g 54 #[.int .i64 N, .int .i64 S] ∧ Tab w') rfl ⟨HG.out.drew, HT.out.after ((Below.refl _ _).drew)⟩ ?_
  refine wpW_val 0 hKS rfl (by kernel_rfl) (by kernel_rfl) (by kernel_rfl) (by kernel_rfl) rfl (fun _ _ _ _ h => h) (.pointer (some ⟨g, 0, none⟩)) (fun w' h => by simp [go_sem]) ?_
  simp only [Act.put, List.setIfInBounds_toArray, List.set_cons_zero, List.set_cons_succ]
  refine wpW_val 1 hKS rfl (by kernel_rfl) (by kernel_rfl) (by kernel_rfl) (by kernel_rfl) rfl (fun _ _ _ _ h => h) (.pointer (some ⟨g, 0, none⟩)) (fun w' h => by simp [go_sem]) ?_
  simp only [Act.put, List.setIfInBounds_toArray, List.set_cons_zero, List.set_cons_succ]
  refine wpW_val 2 hKS rfl (by kernel_rfl) (by kernel_rfl) (by kernel_rfl) (by kernel_rfl) rfl (fun _ _ _ _ h => h) (.pointer (some ⟨g, 1, none⟩)) (fun w' h => by simp [go_sem]) ?_
  simp only [Act.put, List.setIfInBounds_toArray, List.set_cons_zero, List.set_cons_succ]
  refine wpW_val 3 hKS rfl (by kernel_rfl) (by kernel_rfl) (by kernel_rfl) (by kernel_rfl) rfl (fun _ _ _ _ h => h) (.int .i64 S) (fun w' h => by simp [go_sem, h.1.cell 1 rfl]) ?_
  simp only [Act.put, List.setIfInBounds_toArray, List.set_cons_zero, List.set_cons_succ]
  refine wpW_val 4 hKS rfl (by kernel_rfl) (by kernel_rfl) (by kernel_rfl) (by kernel_rfl) rfl (fun _ _ _ _ h => h) (.slice a n c) (fun w' h => by simp [go_sem]) ?_
  simp only [Act.put, List.setIfInBounds_toArray, List.set_cons_zero, List.set_cons_succ]
  refine wpW_val 5 hKS rfl (by kernel_rfl) (by kernel_rfl) (by kernel_rfl) (by kernel_rfl) rfl (fun _ _ _ _ h => h) (.int .i64 n) (fun w' h => by simp [go_sem]) ?_
  simp only [Act.put, List.setIfInBounds_toArray, List.set_cons_zero, List.set_cons_succ]
  refine wpW_call 6 hKS rfl (by kernel_rfl) (by kernel_rfl) (by kernel_rfl) (by kernel_rfl) rfl (fun _ _ _ _ h => h) 36 #[.int .i64 n] (fun w => by simp [go_sem]) (.string ⟨d.toArray⟩) (fun w' h => HPL.out w' h.2) ?_
  simp only [Act.put, List.setIfInBounds_toArray, List.set_cons_zero, List.set_cons_succ]
  refine wpW_val 7 hKS rfl (by kernel_rfl) (by kernel_rfl) (by kernel_rfl) (by kernel_rfl) rfl (fun _ _ _ _ h => h) (.int .i64 d.length) (fun w' h => by simp [go_sem]; first | done | rfl) ?_
  simp only [Act.put, List.setIfInBounds_toArray, List.set_cons_zero, List.set_cons_succ]
  refine wpW_val 8 hKS rfl (by kernel_rfl) (by kernel_rfl) (by kernel_rfl) (by kernel_rfl) rfl (fun _ _ _ _ h => h) (.int .i64 ((d.length : Int) + 1)) (fun w' h => by simp [go_sem, E1.out]) ?_
  simp only [Act.put, List.setIfInBounds_toArray, List.set_cons_zero, List.set_cons_succ]
  refine wpW_val 9 hKS rfl (by kernel_rfl) (by kernel_rfl) (by kernel_rfl) (by kernel_rfl) rfl (fun _ _ _ _ h => h) (.slice a n c) (fun w' h => by simp [go_sem]) ?_
  simp only [Act.put, List.setIfInBounds_toArray, List.set_cons_zero, List.set_cons_succ]
  refine wpW_val 10 hKS rfl (by kernel_rfl) (by kernel_rfl) (by kernel_rfl) (by kernel_rfl) rfl (fun _ _ _ _ h => h) (.int .i64 n) (fun w' h => by simp [go_sem]) ?_
  simp only [Act.put, List.setIfInBounds_toArray, List.set_cons_zero, List.set_cons_succ]
  refine wpW_val 11 hKS rfl (by kernel_rfl) (by kernel_rfl) (by kernel_rfl) (by kernel_rfl) rfl (fun _ _ _ _ h => h) (.int .i64 ((d.length : Int) + 1 + (n : Int))) (fun w' h => by simp [go_sem, E2.out]) ?_
  simp only [Act.put, List.setIfInBounds_toArray, List.set_cons_zero, List.set_cons_succ]
  refine wpW_val 12 hKS rfl (by kernel_rfl) (by kernel_rfl) (by kernel_rfl) (by kernel_rfl) rfl (fun _ _ _ _ h => h) (.int .i64 ((S : Int) + ((d.length : Int) + 1 + (n : Int)))) (fun w' h => by simp [go_sem, E3.out]) ?_
  simp only [Act.put, List.setIfInBounds_toArray, List.set_cons_zero, List.set_cons_succ]
  refine wpW_val 13 hKS rfl (by kernel_rfl) (by kernel_rfl) (by kernel_rfl) (by kernel_rfl) rfl (fun _ _ _ _ h => h) (.pointer (some ⟨g, 0, none⟩)) (fun w' h => by simp [go_sem]) ?_
  simp only [Act.put, List.setIfInBounds_toArray, List.set_cons_zero, List.set_cons_succ]
  refine wpW_val 14 hKS rfl (by kernel_rfl) (by kernel_rfl) (by kernel_rfl) (by kernel_rfl) rfl (fun _ _ _ _ h => h) (.pointer (some ⟨g, 1, none⟩)) (fun w' h => by simp [go_sem]) ?_
  simp only [Act.put, List.setIfInBounds_toArray, List.set_cons_zero, List.set_cons_succ]
  refine wpW_store_cell 15 rfl (by kernel_rfl) rfl rfl 3 _ _ rfl HG.out.drew 1 rfl rfl (show 1 < 2 by decide) (fun w => by simp [go_sem]) ?_
  intro w1 w2 b1 s1 hbx st
  refine wpU_done (by kernel_rfl) ?_
  intro w3 b3 _
  simp only [Act.put]
  have HB := (((But.refl (fun k => k = g) w).drew.trans (But.ofBelow (S := fun k => k = g) b1) (fun k hk => .inl hk)).trans st (fun k hk => .inl hk)).trans (But.ofBelow (S := fun k => k = g) b3) (fun k hk => .inl hk)
  have hb3 := hbx.after b3
  rw [← HE.out] at hb3
  clear hKS b1 b3 st s1 hbx
  go_end0
  exact ⟨rfl, hb3, HB⟩

end Go.Proofs.YtcflgoddfakepaaDoor
namespace Go.Proofs.YtcflgoddfakepaaDoor
open Go.RowKit
set_option linter.unusedSimpArgs false
set_option linter.unusedVariables false

/-- the table stays, whatever of the set is touched -/
def TabX (S : Nat → Prop) (w : World) : Prop := ∀ w', But S w w' → Tab w'
theorem TabX.but {S : Nat → Prop} {w w1 : World} (h : TabX S w) (hb : But S w w1) : TabX S w1 := fun w' hb' => h w' (hb.trans hb' fun k hk => .inl hk)
theorem TabX.tab {S : Nat → Prop} {w : World} (h : TabX S w) : Tab w := h w (But.refl _ _)
theorem TabX.new {S : Nat → Prop} {w w1 : World} (h : Tab w) (hb : Below w.heap.size w w1) (hS : ∀ k, S k → w.heap.size ≤ k) : TabX S w1 := fun w' hb' => h.after (But.after hb hb' hb.size hS)

/-- may it be, so deep, behind N others? -/
def Sx.okR (s : Sx) (d N : Nat) : Bool := s.clean && decide (N + s.nodes ≤ 512) && decide (s.deep + d ≤ 17)
theorem nodes_pos (s : Sx) : 1 ≤ s.nodes := by obtain ⟨l, h, hi, da, ks⟩ := s; simp only [Sx.nodes]; omega
theorem okR_many {s : Sx} {d N : Nat} (h : 512 ≤ N) : s.okR d N = false := by
  have := nodes_pos s
  unfold Sx.okR
  rw [decide_eq_false (show ¬ N + s.nodes ≤ 512 by omega)]
  simp
theorem okR_unclean {s : Sx} {d N : Nat} (h : s.clean = false) : s.okR d N = false := by unfold Sx.okR; rw [h]; rfl
theorem okR_deep {h : Bool} {hi da : List UInt8} {ks : List Sx} {d N : Nat} (hd : 16 < d) : (Sx.mk true h hi da ks).okR d N = false := by
  unfold Sx.okR
  rw [decide_eq_false (show ¬ (Sx.mk true h hi da ks).deep + d ≤ 17 by simp only [Sx.deep, if_true]; omega)]
  simp
theorem okR_atom {h : Bool} {hi da : List UInt8} {d N : Nat} (hN : N < 512) (hd : d ≤ 17) (hh : headOk false h hi.length da.length 0 = true) : (Sx.mk false h hi da []).okR d N = true := by
  unfold Sx.okR
  rw [clean_def, show ([] : List Sx).length = 0 from rfl, hh, decide_eq_true (show N + (Sx.mk false h hi da []).nodes ≤ 512 by simp only [Sx.nodes, Sx.nodesL]; omega), decide_eq_true (show (Sx.mk false h hi da []).deep + d ≤ 17 by simp [Sx.deep]; omega)]
  rfl
theorem nodesL_take {ks : List Sx} (k : Nat) (h : k < ks.length) : Sx.nodesL (ks.take k) + ks[k].nodes ≤ Sx.nodesL ks := by
  have := Sx.nodesL_append (ks.take (k + 1)) (ks.drop (k + 1))
  rw [List.take_append_drop, Sx.nodesL_snoc ks k h] at this
  omega
theorem okR_kid {h : Bool} {hi da : List UInt8} {ks : List Sx} {d N : Nat} (k : Nat) (hk : k < ks.length) (h0 : ks[k].okR (d + 1) (N + 1 + Sx.nodesL (ks.take k)) = false) : (Sx.mk true h hi da ks).okR d N = false := by
  have h1 := nodesL_take k hk
  have h2 := Sx.deepL_mem (List.getElem_mem hk)
  unfold Sx.okR at h0 ⊢
  simp only [Bool.and_eq_false_iff, decide_eq_false_iff_not] at h0 ⊢
  simp only [Sx.nodes, Sx.deep, if_true]
  rcases h0 with (h0 | h0) | h0
  · exact .inl (.inl (by rw [clean_def, Sx.cleanL_no (List.getElem_mem hk) h0]; simp))
  · exact .inl (.inr (by omega))
  · exact .inr (by omega)
theorem deepL_all {ks : List Sx} {n : Nat} (h : ∀ k (hk : k < ks.length), ks[k].deep ≤ n) : Sx.deepL ks ≤ n :=
  deepL_le fun k hk => by obtain ⟨i, hi, rfl⟩ := List.getElem_of_mem hk; exact h i hi
theorem okR_list {hi da : List UInt8} {ks : List Sx} {d N : Nat} (hd : d ≤ 16) (hN : N < 512) (hh : headOk true false hi.length da.length ks.length = true) (ha : Sx.cleanL ks = true ∧ Sx.deepL ks + d ≤ 16 ∧ (N + 1 + Sx.nodesL ks ≤ 512)) : (Sx.mk true false hi da ks).okR d N = true := by
  unfold Sx.okR
  rw [clean_def, hh, ha.1, decide_eq_true (show N + (Sx.mk true false hi da ks).nodes ≤ 512 by simp only [Sx.nodes]; omega), decide_eq_true (show (Sx.mk true false hi da ks).deep + d ≤ 17 by simp only [Sx.deep, if_true]; omega)]
  rfl
theorem okR_parts {s : Sx} {d N : Nat} (h : s.okR d N = true) : s.clean = true ∧ N + s.nodes ≤ 512 ∧ s.deep + d ≤ 17 := by
  unfold Sx.okR at h
  simpa [and_assoc] using h
theorem may_okR (s : Sx) : s.may = (s.okR 1 0 && decide (s.form.length ≤ 4096)) := by
  unfold Sx.may Sx.okR
  rw [Nat.zero_add, show decide (s.deep + 1 ≤ 17) = decide (s.deep ≤ 16) from decide_eq_decide.2 (by omega)]

def RightP (g : Nat) (ok : Bool) (N S : Nat) (w : World) (e : Ending) (w' : World) : Prop :=
  ∃ N2 S2 : Nat, e = .returned (.bool ok) ∧ Box w' g 54 #[.int .i64 N2, .int .i64 S2] ∧ (ok = true → N2 = N ∧ S2 = S) ∧ But (fun k => k = g) w w'

set_option maxHeartbeats 8000000 in
set_option maxRecDepth 100000 in
theorem right_any (s : Sx) : ∀ (v : SV) (g N S d m : Nat) (w : World), Box w g 54 #[.int .i64 N, .int .i64 S] → RdI (fun k => k ≠ g) w v s → s.wide m = false → TabX (fun k => k = g) w → N ≤ 512 → S ≤ 20000 * N → d ≤ 17 →
    Calls Tryd.prog 31 #[.pointer (some ⟨g, 0, none⟩), v.val, .int .i64 d] w (RightP g (s.okR d N) (N + s.nodes) (S + s.form.length) w) := by
  induction s using Sx.ind with
  | h l hh hi da ks ih =>
  intro v g N S d m w hg hr hwd htx hN hS hd
  have HRR := Lib.hid hr
  obtain ⟨hvl, hvh, hs1, hs2, hn, hnc, hcm, K, hrow, hk⟩ := hr.parts
  obtain ⟨vl, vh, a1, n1, k1, a2, n2, k2, a3, n3, k3⟩ := v
  dsimp only at hn hnc hcm hrow hk hvl hvh hs1 hs2
  obtain rfl : vl = l := hvl
  obtain rfl : vh = hh := hvh
  replace hn : n3 = ks.length := hn
  replace hs1 : Sl w a1 n1 k1 hi := hs1
  replace hs2 : Sl w a2 n2 k2 da := hs2
  replace hk : ∀ i (hi : i < ks.length), RdI (fun k => k ≠ g) w (K i) ks[i] := hk
  obtain ⟨l1, hl1⟩ : ∃ l1, l1 = hi := ⟨_, rfl⟩
  have hn1 := hs1.1
  have hn2 := hs2.1
  have hm1 := hs1.2.1
  have hm2 := hs2.2.1
  have hx1 := hs1.2.2.1
  have hx2 := hs2.2.2.1
  have IH := Lib.hid ih
  have HK := Lib.hid hk
  have HR := Lib.hid hrow
  have HS1 := Lib.hid hs1
  have HS2 := Lib.hid hs2
  have HN1 := Lib.hid hn1
  have HN2 := Lib.hid hn2
  clear ih hk hrow hr hs1 hs2 hn1 hn2 hl1
  subst hn
  obtain ⟨hm60, _, hw1, hw2, hwk⟩ := wide_no hwd
  replace hw1 : hi.length ≤ 5000 := hw1
  replace hw2 : da.length ≤ 5000 := hw2
  have hn1 : n1 ≤ 5000 := by have := HN1.out; omega
  have hn2 : n2 ≤ 5000 := by have := HN2.out; omega
  have HWK := Lib.hid hwk
  have HTX := Lib.hid htx
  have hfw := form_wide _ m hwd
  have HFW := Lib.hid hfw
  have hgl := hg.lt
  unfold maxLen at hcm
  clear hwk hwd htx hfw hx1 hx2 hm1 hm2 hm60
  have hgne : g ≠ w.heap.size := by omega
  by_cases hmany : N = 512
  case pos =>
    have hmany' : (512 : Int) < (N : Int) + 1 := by omega
    replace hmany := Nat.le_of_eq hmany.symm
    have X0 := Box.new w 25 #[.bool vl, .bool vh, .slice a1 n1 k1, .slice a2 n2 k2, .slice a3 ks.length k3]
    have G0 := hg.alloc (.cells #[.bool vl, .bool vh, .slice a1 n1 k1, .slice a2 n2 k2, .slice a3 ks.length k3] 25)
    have B0 : But (fun k => k = g) w (w.alloc (.cells #[.bool vl, .bool vh, .slice a1 n1 k1, .slice a2 n2 k2, .slice a3 ks.length k3] 25)) := (But.refl (fun k => k = g) w).alloc _
    show Calls _ _ #[.pointer (some ⟨g, 0, none⟩), .agg #[.bool vl, .bool vh, .slice a1 n1 k1, .slice a2 n2 k2, .slice a3 ks.length k3], .int .i64 d] _ _
    go_enter Tryd.func31, Tryd.ntmps31
    go_upto_region 1 with fail
    change Code.wp _ _ _ _ (w.alloc (.cells #[.bool vl, .bool vh, .slice a1 n1 k1, .slice a2 n2 k2, .slice a3 ks.length k3] 25))
    generalize (w.alloc (.cells #[.bool vl, .bool vh, .slice a1 n1 k1, .slice a2 n2 k2, .slice a3 ks.length k3] 25)) = v0 at *
    have c0 := G0.cell 0 rfl
    have f0 := G0.frozen 0
    have e1 : IntKind.i64.wrap ((N : Int) + 1) = (N : Int) + 1 := IntWalk.i64_in _ ⟨by omega, by omega⟩
    go_upto_region 2 with fail
    have X1 := X0.far ⟨g, 0, none⟩ (.int .i64 ((N : Int) + 1)) (Ne.symm hgne)
    have G1 := G0.set 0 (.int .i64 ((N : Int) + 1))
    have B1 := B0.setCell (p := ⟨g, 0, none⟩) (.inl rfl) (.int .i64 ((N : Int) + 1))
    change Code.wp _ _ _ _ (v0.setCell ⟨g, 0, none⟩ (.int .i64 ((N : Int) + 1)))
    clear X0 G0 B0 c0 f0 e1 hg
    generalize (v0.setCell ⟨g, 0, none⟩ (.int .i64 ((N : Int) + 1))) = v1 at *
    replace G1 : Box v1 g 54 #[.int .i64 ((N : Int) + 1), .int .i64 S] := G1
    have c0 := G1.cell 0 rfl
    go_wp2_with fail
    go_ret
    exact ⟨N + 1, S, by rw [okR_many (by omega)]; rfl, by have := G1; rwa [show ((N + 1 : Nat) : Int) = (N : Int) + 1 by omega], (fun h => by rw [okR_many (by omega)] at h; cases h), B1⟩
  replace hmany : N < 512 := by omega
  have hmany' : ¬ (512 : Int) < (N : Int) + 1 := by omega
  cases vl with
  | false =>
    cases vh with
    | false =>
      have X0 := Box.new w 25 #[.bool false, .bool false, .slice a1 n1 k1, .slice a2 n2 k2, .slice a3 ks.length k3]
      have G0 := hg.alloc (.cells #[.bool false, .bool false, .slice a1 n1 k1, .slice a2 n2 k2, .slice a3 ks.length k3] 25)
      have B0 : But (fun k => k = g) w (w.alloc (.cells #[.bool false, .bool false, .slice a1 n1 k1, .slice a2 n2 k2, .slice a3 ks.length k3] 25)) := (But.refl (fun k => k = g) w).alloc _
      show Calls _ _ #[.pointer (some ⟨g, 0, none⟩), .agg #[.bool false, .bool false, .slice a1 n1 k1, .slice a2 n2 k2, .slice a3 ks.length k3], .int .i64 d] _ _
      go_enter Tryd.func31, Tryd.ntmps31
      go_upto_region 1 with fail
      change Code.wp _ _ _ _ (w.alloc (.cells #[.bool false, .bool false, .slice a1 n1 k1, .slice a2 n2 k2, .slice a3 ks.length k3] 25))
      generalize (w.alloc (.cells #[.bool false, .bool false, .slice a1 n1 k1, .slice a2 n2 k2, .slice a3 ks.length k3] 25)) = v0 at *
      have c0 := G0.cell 0 rfl
      have f0 := G0.frozen 0
      have e1 : IntKind.i64.wrap ((N : Int) + 1) = (N : Int) + 1 := IntWalk.i64_in _ ⟨by omega, by omega⟩
      go_upto_region 2 with fail
      have X1 := X0.far ⟨g, 0, none⟩ (.int .i64 ((N : Int) + 1)) (Ne.symm hgne)
      have G1 := G0.set 0 (.int .i64 ((N : Int) + 1))
      have B1 := B0.setCell (p := ⟨g, 0, none⟩) (.inl rfl) (.int .i64 ((N : Int) + 1))
      change Code.wp _ _ _ _ (v0.setCell ⟨g, 0, none⟩ (.int .i64 ((N : Int) + 1)))
      clear X0 G0 B0 c0 f0 e1 hg
      generalize (v0.setCell ⟨g, 0, none⟩ (.int .i64 ((N : Int) + 1))) = v1 at *
      replace G1 : Box v1 g 54 #[.int .i64 ((N : Int) + 1), .int .i64 S] := G1
      have X1' := X1
      have c0 := G1.cell 0 rfl
      have l0 := X1.cell 0 rfl
      have l1 := X1.cell 1 rfl
      go_upto_region 8 with fail
      clear c0 l0 l1 X1'
      replace G1 : Box v1 g 54 #[.int .i64 ((N + 1 : Nat) : Int), .int .i64 S] := by rw [show ((N + 1 : Nat) : Int) = (N : Int) + 1 by omega]; exact G1
      have cc := X1.cell 3 rfl
      go_wp2_with fail
      refine (cbytes_any g (N + 1) (S) _ n2 _ da v1 G1 (by omega) (by omega) HN2.out (HTX.out _ B1)).mono ?_
      rintro e v2 ⟨rfl, G2, b2⟩
      have X2 := b2.box X1 (by omega)
      have B2 := B1.trans b2 (fun k hk => .inl hk)
      clear cc X1 G1 b2
      have c4 := X2.cell 4 rfl
      have c1 := X2.cell 1 rfl
      have c2 := X2.cell 2 rfl
      by_cases hk0 : ks.length = 0
      case neg =>
        have hk0' : ((ks.length : Int) == 0) = false := beq_eq_false_iff_ne.2 (by omega)
        have HU : Hid ((Sx.mk false false hi da ks).okR d N = false) := Lib.hid (okR_unclean (by rw [clean_def, headOk5 _ _ _ (by omega)]; rfl))
        go_wp2_with fail
        go_ret
        exact ⟨N + 1, S + (textL da).length, by rw [HU.out]; rfl, G2, (fun h => by rw [HU.out] at h; cases h), B2⟩
      have hks : ks = [] := List.eq_nil_of_length_eq_zero hk0
      subst hks
      by_cases h1 : n1 = 0
      · subst h1
        have HU : Hid ((Sx.mk false false hi da []).okR d N = true) := Lib.hid (okR_atom hmany hd (headOk8 _ (by have := HN1.out; omega) rfl))
        go_wp2_with fail
        go_ret
        exact ⟨N + 1, S + (textL da).length, by rw [HU.out]; rfl, G2, (fun _ => ⟨by simp [Sx.nodes, Sx.nodesL], by rw [form_def]; simp; try omega⟩), B2⟩
      · have h1' : ((n1 : Int) == 0) = false := beq_eq_false_iff_ne.2 (by omega)
        have HU : Hid ((Sx.mk false false hi da []).okR d N = false) := Lib.hid (okR_unclean (by rw [clean_def, headOk7 _ _ (by have := HN1.out; omega)]; rfl))
        go_wp2_with fail
        go_ret
        exact ⟨N + 1, S + (textL da).length, by rw [HU.out]; rfl, G2, (fun h => by rw [HU.out] at h; cases h), B2⟩
    | true =>
      have X0 := Box.new w 25 #[.bool false, .bool true, .slice a1 n1 k1, .slice a2 n2 k2, .slice a3 ks.length k3]
      have G0 := hg.alloc (.cells #[.bool false, .bool true, .slice a1 n1 k1, .slice a2 n2 k2, .slice a3 ks.length k3] 25)
      have B0 : But (fun k => k = g) w (w.alloc (.cells #[.bool false, .bool true, .slice a1 n1 k1, .slice a2 n2 k2, .slice a3 ks.length k3] 25)) := (But.refl (fun k => k = g) w).alloc _
      show Calls _ _ #[.pointer (some ⟨g, 0, none⟩), .agg #[.bool false, .bool true, .slice a1 n1 k1, .slice a2 n2 k2, .slice a3 ks.length k3], .int .i64 d] _ _
      go_enter Tryd.func31, Tryd.ntmps31
      go_upto_region 1 with fail
      change Code.wp _ _ _ _ (w.alloc (.cells #[.bool false, .bool true, .slice a1 n1 k1, .slice a2 n2 k2, .slice a3 ks.length k3] 25))
      generalize (w.alloc (.cells #[.bool false, .bool true, .slice a1 n1 k1, .slice a2 n2 k2, .slice a3 ks.length k3] 25)) = v0 at *
      have c0 := G0.cell 0 rfl
      have f0 := G0.frozen 0
      have e1 : IntKind.i64.wrap ((N : Int) + 1) = (N : Int) + 1 := IntWalk.i64_in _ ⟨by omega, by omega⟩
      go_upto_region 2 with fail
      have X1 := X0.far ⟨g, 0, none⟩ (.int .i64 ((N : Int) + 1)) (Ne.symm hgne)
      have G1 := G0.set 0 (.int .i64 ((N : Int) + 1))
      have B1 := B0.setCell (p := ⟨g, 0, none⟩) (.inl rfl) (.int .i64 ((N : Int) + 1))
      change Code.wp _ _ _ _ (v0.setCell ⟨g, 0, none⟩ (.int .i64 ((N : Int) + 1)))
      clear X0 G0 B0 c0 f0 e1 hg
      generalize (v0.setCell ⟨g, 0, none⟩ (.int .i64 ((N : Int) + 1))) = v1 at *
      replace G1 : Box v1 g 54 #[.int .i64 ((N : Int) + 1), .int .i64 S] := G1
      have c0 := G1.cell 0 rfl
      have c1 := G1.cell 1 rfl
      have f1 := G1.frozen 1
      have l0 := X1.cell 0 rfl
      have l1 := X1.cell 1 rfl
      have e2 : IntKind.i64.wrap ((S : Int) + 2) = (S : Int) + 2 := IntWalk.i64_in _ ⟨by omega, by omega⟩
      go_upto_region 7 with fail
      have X2 := X1.far ⟨g, 1, none⟩ (.int .i64 ((S : Int) + 2)) (Ne.symm hgne)
      have G2 := G1.set 1 (.int .i64 ((S : Int) + 2))
      have B2 := B1.setCell (p := ⟨g, 1, none⟩) (.inl rfl) (.int .i64 ((S : Int) + 2))
      change Code.wp _ _ _ _ (v1.setCell ⟨g, 1, none⟩ (.int .i64 ((S : Int) + 2)))
      clear X1 G1 B1 c0 c1 f1 l0 l1 e2
      generalize (v1.setCell ⟨g, 1, none⟩ (.int .i64 ((S : Int) + 2))) = v2 at *
      replace G2 : Box v2 g 54 #[.int .i64 ((N + 1 : Nat) : Int), .int .i64 ((S + 2 : Nat) : Int)] := by rw [show ((N + 1 : Nat) : Int) = (N : Int) + 1 by omega, show ((S + 2 : Nat) : Int) = (S : Int) + 2 by omega]; exact G2
      have ht1 := textL_len hi (by omega)
      have cc := X2.cell 2 rfl
      go_wp2_with fail
      refine (cbytes_any g (N + 1) (S + 2) _ n1 _ hi v2 G2 (by omega) (by omega) HN1.out (HTX.out _ B2)).mono ?_
      rintro e v3 ⟨rfl, G3, b3⟩
      have X3 := b3.box X2 (by omega)
      have B3 := B2.trans b3 (fun k hk => .inl hk)
      clear cc X2 G2 b3
      have cc := X3.cell 3 rfl
      go_wp2_with fail
      refine (cbytes_any g (N + 1) (S + 2 + (textL hi).length) _ n2 _ da v3 G3 (by omega) (by omega) HN2.out (HTX.out _ B3)).mono ?_
      rintro e v4 ⟨rfl, G4, b4⟩
      have X4 := b4.box X3 (by omega)
      have B4 := B3.trans b4 (fun k hk => .inl hk)
      clear cc X3 G3 b4
      have c4 := X4.cell 4 rfl
      have c1 := X4.cell 1 rfl
      have c2 := X4.cell 2 rfl
      by_cases hk0 : ks.length = 0
      case neg =>
        have hk0' : ((ks.length : Int) == 0) = false := beq_eq_false_iff_ne.2 (by omega)
        have HU : Hid ((Sx.mk false true hi da ks).okR d N = false) := Lib.hid (okR_unclean (by rw [clean_def, headOk5 _ _ _ (by omega)]; rfl))
        go_wp2_with fail
        go_ret
        exact ⟨N + 1, S + 2 + (textL hi).length + (textL da).length, by rw [HU.out]; rfl, G4, (fun h => by rw [HU.out] at h; cases h), B4⟩
      have hks : ks = [] := List.eq_nil_of_length_eq_zero hk0
      subst hks
      have HU : Hid ((Sx.mk false true hi da []).okR d N = true) := Lib.hid (okR_atom hmany hd (headOk6 _ _ rfl))
      go_wp2_with fail
      go_ret
      exact ⟨N + 1, S + 2 + (textL hi).length + (textL da).length, by rw [HU.out]; rfl, G4, (fun _ => ⟨by simp [Sx.nodes, Sx.nodesL], by rw [form_def]; simp; try omega⟩), B4⟩
  | true =>
    by_cases hd16 : 16 < d
    case pos =>
      have hd16' : (16 : Int) < d := by omega
      have HU : Hid ((Sx.mk true vh hi da ks).okR d N = false) := Lib.hid (okR_deep hd16)
      have X0 := Box.new w 25 #[.bool true, .bool vh, .slice a1 n1 k1, .slice a2 n2 k2, .slice a3 ks.length k3]
      have G0 := hg.alloc (.cells #[.bool true, .bool vh, .slice a1 n1 k1, .slice a2 n2 k2, .slice a3 ks.length k3] 25)
      have B0 : But (fun k => k = g) w (w.alloc (.cells #[.bool true, .bool vh, .slice a1 n1 k1, .slice a2 n2 k2, .slice a3 ks.length k3] 25)) := (But.refl (fun k => k = g) w).alloc _
      show Calls _ _ #[.pointer (some ⟨g, 0, none⟩), .agg #[.bool true, .bool vh, .slice a1 n1 k1, .slice a2 n2 k2, .slice a3 ks.length k3], .int .i64 d] _ _
      go_enter Tryd.func31, Tryd.ntmps31
      go_upto_region 1 with fail
      change Code.wp _ _ _ _ (w.alloc (.cells #[.bool true, .bool vh, .slice a1 n1 k1, .slice a2 n2 k2, .slice a3 ks.length k3] 25))
      generalize (w.alloc (.cells #[.bool true, .bool vh, .slice a1 n1 k1, .slice a2 n2 k2, .slice a3 ks.length k3] 25)) = v0 at *
      have c0 := G0.cell 0 rfl
      have f0 := G0.frozen 0
      have e1 : IntKind.i64.wrap ((N : Int) + 1) = (N : Int) + 1 := IntWalk.i64_in _ ⟨by omega, by omega⟩
      go_upto_region 2 with fail
      have X1 := X0.far ⟨g, 0, none⟩ (.int .i64 ((N : Int) + 1)) (Ne.symm hgne)
      have G1 := G0.set 0 (.int .i64 ((N : Int) + 1))
      have B1 := B0.setCell (p := ⟨g, 0, none⟩) (.inl rfl) (.int .i64 ((N : Int) + 1))
      change Code.wp _ _ _ _ (v0.setCell ⟨g, 0, none⟩ (.int .i64 ((N : Int) + 1)))
      clear X0 G0 B0 c0 f0 e1 hg
      generalize (v0.setCell ⟨g, 0, none⟩ (.int .i64 ((N : Int) + 1))) = v1 at *
      replace G1 : Box v1 g 54 #[.int .i64 ((N : Int) + 1), .int .i64 S] := G1
      have c0 := G1.cell 0 rfl
      have l0 := X1.cell 0 rfl
      have l1 := X1.cell 1 rfl
      have l2 := X1.cell 2 rfl
      have l3 := X1.cell 3 rfl
      go_wp2_with fail
      go_ret
      exact ⟨N + 1, S, by rw [HU.out]; rfl, by have := G1; rwa [show ((N + 1 : Nat) : Int) = (N : Int) + 1 by omega], (fun h => by rw [HU.out] at h; cases h), B1⟩
    have hd16' : ¬ (16 : Int) < d := by omega
    cases vh with
    | true =>
      have HU : Hid ((Sx.mk true true hi da ks).okR d N = false) := Lib.hid (okR_unclean (by rw [clean_def, headOk1]; rfl))
      have X0 := Box.new w 25 #[.bool true, .bool true, .slice a1 n1 k1, .slice a2 n2 k2, .slice a3 ks.length k3]
      have G0 := hg.alloc (.cells #[.bool true, .bool true, .slice a1 n1 k1, .slice a2 n2 k2, .slice a3 ks.length k3] 25)
      have B0 : But (fun k => k = g) w (w.alloc (.cells #[.bool true, .bool true, .slice a1 n1 k1, .slice a2 n2 k2, .slice a3 ks.length k3] 25)) := (But.refl (fun k => k = g) w).alloc _
      show Calls _ _ #[.pointer (some ⟨g, 0, none⟩), .agg #[.bool true, .bool true, .slice a1 n1 k1, .slice a2 n2 k2, .slice a3 ks.length k3], .int .i64 d] _ _
      go_enter Tryd.func31, Tryd.ntmps31
      go_upto_region 1 with fail
      change Code.wp _ _ _ _ (w.alloc (.cells #[.bool true, .bool true, .slice a1 n1 k1, .slice a2 n2 k2, .slice a3 ks.length k3] 25))
      generalize (w.alloc (.cells #[.bool true, .bool true, .slice a1 n1 k1, .slice a2 n2 k2, .slice a3 ks.length k3] 25)) = v0 at *
      have c0 := G0.cell 0 rfl
      have f0 := G0.frozen 0
      have e1 : IntKind.i64.wrap ((N : Int) + 1) = (N : Int) + 1 := IntWalk.i64_in _ ⟨by omega, by omega⟩
      go_upto_region 2 with fail
      have X1 := X0.far ⟨g, 0, none⟩ (.int .i64 ((N : Int) + 1)) (Ne.symm hgne)
      have G1 := G0.set 0 (.int .i64 ((N : Int) + 1))
      have B1 := B0.setCell (p := ⟨g, 0, none⟩) (.inl rfl) (.int .i64 ((N : Int) + 1))
      change Code.wp _ _ _ _ (v0.setCell ⟨g, 0, none⟩ (.int .i64 ((N : Int) + 1)))
      clear X0 G0 B0 c0 f0 e1 hg
      generalize (v0.setCell ⟨g, 0, none⟩ (.int .i64 ((N : Int) + 1))) = v1 at *
      replace G1 : Box v1 g 54 #[.int .i64 ((N : Int) + 1), .int .i64 S] := G1
      have c0 := G1.cell 0 rfl
      have l0 := X1.cell 0 rfl
      have l1 := X1.cell 1 rfl
      have l2 := X1.cell 2 rfl
      have l3 := X1.cell 3 rfl
      go_wp2_with fail
      go_ret
      exact ⟨N + 1, S, by rw [HU.out]; rfl, by have := G1; rwa [show ((N + 1 : Nat) : Int) = (N : Int) + 1 by omega], (fun h => by rw [HU.out] at h; cases h), B1⟩
    | false =>
    by_cases h12 : 0 < n1 + n2
    case pos =>
      have h12' : 0 < (n1 : Int) + n2 := by omega
      have h12e : IntKind.i64.wrap ((n1 : Int) + n2) = (n1 : Int) + n2 := IntWalk.i64_in _ ⟨by omega, by omega⟩
      have HU : Hid ((Sx.mk true false hi da ks).okR d N = false) := Lib.hid (okR_unclean (by
        rw [clean_def]
        have e1 := HN1.out
        have e2 := HN2.out
        rcases Nat.lt_or_ge 0 hi.length with h | h
        · rw [headOk2 _ _ h]; rfl
        · rw [headOk3 _ _ (by omega)]; rfl))
      have X0 := Box.new w 25 #[.bool true, .bool false, .slice a1 n1 k1, .slice a2 n2 k2, .slice a3 ks.length k3]
      have G0 := hg.alloc (.cells #[.bool true, .bool false, .slice a1 n1 k1, .slice a2 n2 k2, .slice a3 ks.length k3] 25)
      have B0 : But (fun k => k = g) w (w.alloc (.cells #[.bool true, .bool false, .slice a1 n1 k1, .slice a2 n2 k2, .slice a3 ks.length k3] 25)) := (But.refl (fun k => k = g) w).alloc _
      show Calls _ _ #[.pointer (some ⟨g, 0, none⟩), .agg #[.bool true, .bool false, .slice a1 n1 k1, .slice a2 n2 k2, .slice a3 ks.length k3], .int .i64 d] _ _
      go_enter Tryd.func31, Tryd.ntmps31
      go_upto_region 1 with fail
      change Code.wp _ _ _ _ (w.alloc (.cells #[.bool true, .bool false, .slice a1 n1 k1, .slice a2 n2 k2, .slice a3 ks.length k3] 25))
      generalize (w.alloc (.cells #[.bool true, .bool false, .slice a1 n1 k1, .slice a2 n2 k2, .slice a3 ks.length k3] 25)) = v0 at *
      have c0 := G0.cell 0 rfl
      have f0 := G0.frozen 0
      have e1 : IntKind.i64.wrap ((N : Int) + 1) = (N : Int) + 1 := IntWalk.i64_in _ ⟨by omega, by omega⟩
      go_upto_region 2 with fail
      have X1 := X0.far ⟨g, 0, none⟩ (.int .i64 ((N : Int) + 1)) (Ne.symm hgne)
      have G1 := G0.set 0 (.int .i64 ((N : Int) + 1))
      have B1 := B0.setCell (p := ⟨g, 0, none⟩) (.inl rfl) (.int .i64 ((N : Int) + 1))
      change Code.wp _ _ _ _ (v0.setCell ⟨g, 0, none⟩ (.int .i64 ((N : Int) + 1)))
      clear X0 G0 B0 c0 f0 e1 hg
      generalize (v0.setCell ⟨g, 0, none⟩ (.int .i64 ((N : Int) + 1))) = v1 at *
      replace G1 : Box v1 g 54 #[.int .i64 ((N : Int) + 1), .int .i64 S] := G1
      have c0 := G1.cell 0 rfl
      have l0 := X1.cell 0 rfl
      have l1 := X1.cell 1 rfl
      have l2 := X1.cell 2 rfl
      have l3 := X1.cell 3 rfl
      go_wp2_with fail
      go_ret
      exact ⟨N + 1, S, by rw [HU.out]; rfl, by have := G1; rwa [show ((N + 1 : Nat) : Int) = (N : Int) + 1 by omega], (fun h => by rw [HU.out] at h; cases h), B1⟩
    obtain rfl : n1 = 0 := by omega
    obtain rfl : n2 = 0 := by omega
    have h12' : ¬ 0 < ((0 : Nat) : Int) + ((0 : Nat) : Int) := by omega
    have HH : Hid (headOk true false hi.length da.length ks.length = true) := Lib.hid (headOk4 _ (by have := HN1.out; omega) (by have := HN2.out; omega))
    have X0 := Box.new w 25 #[.bool true, .bool false, .slice a1 0 k1, .slice a2 0 k2, .slice a3 ks.length k3]
    have G0 := hg.alloc (.cells #[.bool true, .bool false, .slice a1 0 k1, .slice a2 0 k2, .slice a3 ks.length k3] 25)
    have B0 : But (fun k => k = g) w (w.alloc (.cells #[.bool true, .bool false, .slice a1 0 k1, .slice a2 0 k2, .slice a3 ks.length k3] 25)) := (But.refl (fun k => k = g) w).alloc _
    show Calls _ _ #[.pointer (some ⟨g, 0, none⟩), .agg #[.bool true, .bool false, .slice a1 0 k1, .slice a2 0 k2, .slice a3 ks.length k3], .int .i64 d] _ _
    go_enter Tryd.func31, Tryd.ntmps31
    go_upto_region 1 with fail
    change Code.wp _ _ _ _ (w.alloc (.cells #[.bool true, .bool false, .slice a1 0 k1, .slice a2 0 k2, .slice a3 ks.length k3] 25))
    generalize (w.alloc (.cells #[.bool true, .bool false, .slice a1 0 k1, .slice a2 0 k2, .slice a3 ks.length k3] 25)) = v0 at *
    have c0 := G0.cell 0 rfl
    have f0 := G0.frozen 0
    have e1 : IntKind.i64.wrap ((N : Int) + 1) = (N : Int) + 1 := IntWalk.i64_in _ ⟨by omega, by omega⟩
    go_upto_region 2 with fail
    have X1 := X0.far ⟨g, 0, none⟩ (.int .i64 ((N : Int) + 1)) (Ne.symm hgne)
    have G1 := G0.set 0 (.int .i64 ((N : Int) + 1))
    have B1 := B0.setCell (p := ⟨g, 0, none⟩) (.inl rfl) (.int .i64 ((N : Int) + 1))
    change Code.wp _ _ _ _ (v0.setCell ⟨g, 0, none⟩ (.int .i64 ((N : Int) + 1)))
    clear X0 G0 B0 c0 f0 e1 hg
    generalize (v0.setCell ⟨g, 0, none⟩ (.int .i64 ((N : Int) + 1))) = v1 at *
    replace G1 : Box v1 g 54 #[.int .i64 ((N : Int) + 1), .int .i64 S] := G1
    have c0 := G1.cell 0 rfl
    have c1 := G1.cell 1 rfl
    have f1 := G1.frozen 1
    have l0 := X1.cell 0 rfl
    have l1 := X1.cell 1 rfl
    have l2 := X1.cell 2 rfl
    have l3 := X1.cell 3 rfl
    have e2 : IntKind.i64.wrap ((S : Int) + 2) = (S : Int) + 2 := IntWalk.i64_in _ ⟨by omega, by omega⟩
    go_upto_region 13 with fail
    have X2 := X1.far ⟨g, 1, none⟩ (.int .i64 ((S : Int) + 2)) (Ne.symm hgne)
    have G2 := G1.set 1 (.int .i64 ((S : Int) + 2))
    have B2 := B1.setCell (p := ⟨g, 1, none⟩) (.inl rfl) (.int .i64 ((S : Int) + 2))
    change Code.wp _ _ _ _ (v1.setCell ⟨g, 1, none⟩ (.int .i64 ((S : Int) + 2)))
    clear X1 G1 B1 c0 c1 f1 l0 l1 l2 l3 e2
    generalize (v1.setCell ⟨g, 1, none⟩ (.int .i64 ((S : Int) + 2))) = v2 at *
    replace G2 : Box v2 g 54 #[.int .i64 ((N + 1 : Nat) : Int), .int .i64 ((S + 2 : Nat) : Int)] := by rw [show ((N + 1 : Nat) : Int) = (N : Int) + 1 by omega, show ((S + 2 : Nat) : Int) = (S : Int) + 2 by omega]; exact G2
    have l4 := X2.cell 4 rfl
    go_wp2_with fail
    go_loopw [8, 81] (fun _ k wr => ∃ n : Nat, n ≤ ks.length ∧ k = .int .i64 n ∧ Hid (Sx.cleanL (ks.take n) = true ∧ Sx.deepL (ks.take n) + d ≤ 16) ∧ N + 1 + Sx.nodesL (ks.take n) ≤ 512 ∧ S + 2 + (Sx.formL (ks.take n)).length ≤ 20000 * (N + 1 + Sx.nodesL (ks.take n)) ∧
      Box wr g 54 #[.int .i64 ((N + 1 + Sx.nodesL (ks.take n) : Nat) : Int), .int .i64 ((S + 2 + (Sx.formL (ks.take n)).length : Nat) : Int)] ∧ Box wr w.heap.size 25 #[.bool true, .bool false, .slice a1 0 k1, .slice a2 0 k2, .slice a3 ks.length k3] ∧ But (fun k => k = g) w wr) (fun _ k _ => ks.length - (intOf k).toNat)
    case atStart => exact ⟨0, Nat.zero_le _, rfl, Lib.hid ⟨rfl, by simp [Sx.deepL]; omega⟩, by simp [Sx.nodesL]; omega, by simp [Sx.nodesL, Sx.formL]; omega, by simpa [Sx.nodesL, Sx.formL] using G2, X2, B2⟩
    case round =>
      obtain ⟨n, hnl, rfl, HC, hN2, hS2, G, X, B⟩ := hrel
      clear X2 G2 B2 l4
      have l4 := X.cell 4 rfl
      by_cases hlt : n < ks.length
      · obtain ⟨b, o, rfl, hld⟩ := (HR.out.but B HRR.out.inb.2.2 (fun k h => h)).range hlt
        have HL := Lib.hid hld
        have hrd := (HK.out n hlt).but B (fun k h => h)
        have hks := HWK.out ks[n] (List.getElem_mem hlt)
        have hfk := form_wide _ _ hks
        have HRd := Lib.hid hrd
        have HKS := Lib.hid hks
        have htab := Lib.hid (HTX.out.but B)
        have ewr : IntKind.i64.wrap ((d : Int) + 1) = (d : Int) + 1 := IntWalk.i64_in _ ⟨by omega, by omega⟩
        obtain ⟨ck, hck⟩ : ∃ ck, ck = ks[n].okR (d + 1) (N + 1 + Sx.nodesL (ks.take n)) := ⟨_, rfl⟩
        have HCK := Lib.hid hck
        have IH2 : Hid (∀ w, Box w g 54 #[.int .i64 ((N + 1 + Sx.nodesL (ks.take n) : Nat) : Int), .int .i64 ((S + 2 + (Sx.formL (ks.take n)).length : Nat) : Int)] → RdI (fun k => k ≠ g) w (K n) ks[n] → TabX (fun k => k = g) w →
            Calls Tryd.prog 31 #[.pointer (some ⟨g, 0, none⟩), (K n).val, .int .i64 ((d : Int) + 1)] w (RightP g ck (N + 1 + Sx.nodesL (ks.take n) + ks[n].nodes) (S + 2 + (Sx.formL (ks.take n)).length + ks[n].form.length) w)) :=
          Lib.hid fun w h1 h2 h3 => by
            have := IH.out _ (List.getElem_mem hlt) (K n) g (N + 1 + Sx.nodesL (ks.take n)) (S + 2 + (Sx.formL (ks.take n)).length) (d + 1) (m + 1) w h1 h2 HKS.out h3 hN2 hS2 (by omega)
            rw [← hck] at this
            exact this
        clear hrd hld hks hck
        go_upto_region 16 with first | (refine wpList_load_sv rfl _ rfl b _ rfl _ HL.out ?_) | (refine wpList_store_box (cells := (K n).cells) rfl 25 _ _ rfl (Box.new _ _ _) (by rfl) (by rfl) rfl (by kernel_rfl) (SV.one _) ?_; intro u1 Y1 st1)
        have hbu : Below wr.heap.size wr u1 := st1.below wr.heap.size wr (Nat.le_refl _) ((Below.refl _ _).alloc (Nat.le_refl _) _)
        have hwz := B.size
        have hgz := G.lt
        have B' : But (fun k => k = g) w u1 := (B.alloc _).trans (But.ofStored st1 (st1.below 0 _ (Nat.zero_le _) (Below.refl 0 _))) (fun k hk => .inr (by omega))
        have G' := G.after hbu
        have X' := X.after hbu
        have HRd' := Lib.hid (HRd.out.after hbu)
        have htab' := Lib.hid (htab.out.but (But.ofBelow hbu))
        have HY := Lib.hid Y1
        have hzu : wr.heap.size < u1.heap.size := Y1.lt
        clear st1 hbu B G X HRd htab HL Y1 l4
        go_wp2_with (refine wpList_load_box rfl 25 _ rfl HY.out (by rfl) Tryd.underlying25 rfl (by kernel_rfl) ?_)
        refine (IH2.out _ G' HRd'.out htab'.out).mono ?_
        rintro e v3 ⟨N3, S3, rfl, G3, hok, b3⟩
        have X3 := b3.box X' (by omega)
        have B3 := B'.trans b3 (fun k hk => .inl hk)
        have HOK := Lib.hid hok
        clear hok b3 G' X' B'
        cases ck with
        | false =>
          have HU : Hid ((Sx.mk true false hi da ks).okR d N = false) := Lib.hid (okR_kid n hlt HCK.out.symm)
          go_wp2_with fail
          go_ret
          exact ⟨N3, S3, by rw [HU.out]; rfl, G3, (fun h => by rw [HU.out] at h; cases h), B3⟩
        | true =>
          have hpp := okR_parts HCK.out.symm
          have HPP := Lib.hid hpp
          have hp2 := hpp.2.1
          have HSN := Lib.hid (Sx.nodesL_snoc ks n hlt)
          have HSF := Lib.hid (Sx.formL_snoc ks n hlt)
          have hfk' := hfk
          clear hpp
          go_wp2_with fail
          go_roundw
          case rel =>
            obtain ⟨rfl, rfl⟩ := HOK.out (by trivial)
            refine ⟨n + 1, by omega, by go_num, Lib.hid ⟨by rw [Sx.cleanL_snoc ks n hlt, HC.out.1, HPP.out.1]; rfl, by rw [Sx.deepL_snoc ks n hlt]; have := HC.out.2; have := HPP.out.2.2; omega⟩, by rw [HSN.out]; omega, by rw [HSN.out, HSF.out, List.length_append]; omega, ?_, X3, B3⟩
            rw [HSN.out, HSF.out, List.length_append, ← Nat.add_assoc, ← Nat.add_assoc]
            exact G3
          case measure => simp [intOf]; omega
      · have hnn : n = ks.length := by omega
        subst hnn
        have hC := HC.out
        rw [List.take_length] at hC hN2 G
        have HU : Hid ((Sx.mk true false hi da ks).okR d N = true) := Lib.hid (okR_list (by omega) hmany HH.out ⟨hC.1, hC.2, hN2⟩)
        have G' := Lib.hid G
        clear hC G HC
        go_wp2_with fail
        go_ret
        refine ⟨_, _, by rw [HU.out]; rfl, G'.out, fun _ => ⟨by simp only [Sx.nodes]; omega, ?_⟩, B⟩
        rw [form_def, if_pos rfl]
        simp only [List.length_cons, List.length_append, List.length_nil]
        omega

set_option maxHeartbeats 2000000 in
set_option maxRecDepth 100000 in
theorem may_any (s : Sx) (v : SV) (w : World) (hr : Rd w v s) (m : Nat) (hw : s.wide m = false) (ht : Tab w) : Calls Tryd.prog 18 #[v.val] w fun e w' => e = .returned (.bool s.may) ∧ Below w.heap.size w w' := by
  obtain ⟨vl, vh, a1, n1, k1, a2, n2, k2, a3, n3, k3⟩ := v
  have B0 : Below w.heap.size w ((w.alloc (.cells #[.bool vl, .bool vh, .slice a1 n1 k1, .slice a2 n2 k2, .slice a3 n3 k3] 25)).alloc (.cells #[.int .i64 0, .int .i64 0] 54)) := ((Below.refl _ _).alloc (Nat.le_refl _) _).alloc (by simp) _
  have X0 : Box ((w.alloc (.cells #[.bool vl, .bool vh, .slice a1 n1 k1, .slice a2 n2 k2, .slice a3 n3 k3] 25)).alloc (.cells #[.int .i64 0, .int .i64 0] 54)) w.heap.size 25 #[.bool vl, .bool vh, .slice a1 n1 k1, .slice a2 n2 k2, .slice a3 n3 k3] := (Box.new _ _ _).alloc _
  have G0 : Box ((w.alloc (.cells #[.bool vl, .bool vh, .slice a1 n1 k1, .slice a2 n2 k2, .slice a3 n3 k3] 25)).alloc (.cells #[.int .i64 0, .int .i64 0] 54)) (w.heap.size + 1) 54 #[.int .i64 0, .int .i64 0] := by
    have := Box.new (w.alloc (.cells #[.bool vl, .bool vh, .slice a1 n1 k1, .slice a2 n2 k2, .slice a3 n3 k3] 25)) 54 #[.int .i64 0, .int .i64 0]
    simpa using this
  have hrd := (hr.there.mono (ok' := fun k => k ≠ w.heap.size + 1) (fun b hb => by have := hb.2; omega)).after B0
  have htx : TabX (fun k => k = w.heap.size + 1) ((w.alloc (.cells #[.bool vl, .bool vh, .slice a1 n1 k1, .slice a2 n2 k2, .slice a3 n3 k3] 25)).alloc (.cells #[.int .i64 0, .int .i64 0] 54)) := TabX.new ht B0 (fun k hk => by omega)
  obtain ⟨ok, hok⟩ : ∃ ok, ok = s.okR 1 0 := ⟨_, rfl⟩
  have HM : Hid (s.may = (ok && decide (s.form.length ≤ 4096))) := Lib.hid (by rw [hok]; exact may_okR s)
  have CALL := Lib.hid (right_any s ⟨vl, vh, a1, n1, k1, a2, n2, k2, a3, n3, k3⟩ (w.heap.size + 1) 0 0 1 m ((w.alloc (.cells #[.bool vl, .bool vh, .slice a1 n1 k1, .slice a2 n2 k2, .slice a3 n3 k3] 25)).alloc (.cells #[.int .i64 0, .int .i64 0] 54)) G0 hrd hw htx (by omega) (by omega) (by omega))
  rw [← hok, Nat.zero_add, Nat.zero_add] at CALL
  have HX := Lib.hid X0
  clear hrd htx hok hr ht hw X0 G0
  show Calls _ _ #[.agg #[.bool vl, .bool vh, .slice a1 n1 k1, .slice a2 n2 k2, .slice a3 n3 k3]] _ _
  go_enter Tryd.func18, Tryd.ntmps18
  go_upto_region 2 with fail
  change Code.wp _ _ _ _ ((w.alloc (.cells #[.bool vl, .bool vh, .slice a1 n1 k1, .slice a2 n2 k2, .slice a3 n3 k3] 25)).alloc (.cells #[.int .i64 0, .int .i64 0] 54))
  have hz : w.heap.size ≤ ((w.alloc (.cells #[.bool vl, .bool vh, .slice a1 n1 k1, .slice a2 n2 k2, .slice a3 n3 k3] 25)).alloc (.cells #[.int .i64 0, .int .i64 0] 54)).heap.size := by simp; omega
  generalize ((w.alloc (.cells #[.bool vl, .bool vh, .slice a1 n1 k1, .slice a2 n2 k2, .slice a3 n3 k3] 25)).alloc (.cells #[.int .i64 0, .int .i64 0] 54)) = v0 at *
  go_wp2_with (refine wpList_load_box rfl 25 _ rfl HX.out (by rfl) Tryd.underlying25 rfl (by kernel_rfl) ?_)
  refine CALL.out.mono ?_
  rintro e v1 ⟨N2, S2, rfl, G1, hN, b1⟩
  have HB := But.after B0 b1 hz (fun k hk => by omega)
  have HOK := Lib.hid hN
  have g1 := G1.cell 1 rfl
  clear hN b1 CALL
  cases ok with
  | false =>
    go_wp2_with fail
    go_ret
    exact ⟨by rw [HM.out]; rfl, HB⟩
  | true =>
    obtain ⟨rfl, rfl⟩ := HOK.out (by trivial)
    go_wp2_with fail
    go_ret
    exact ⟨by
      rw [HM.out]
      show Ending.returned (.bool (decide ((s.form.length : Int) ≤ 4096))) = _
      rw [show decide ((s.form.length : Int) ≤ 4096) = decide (s.form.length ≤ 4096) from decide_eq_decide.2 (by omega)]
      rfl, HB⟩

end Go.Proofs.YtcflgoddfakepaaDoor
namespace Go.Proofs.YtcflgoddfakepaaDoor
open Go.RowKit
set_option linter.unusedSimpArgs false
set_option linter.unusedVariables false

/-! what is to be put yet -/
def itF : Option Sx → List UInt8
  | none => [41]
  | some t => t.form
def itW : Option Sx → Nat
  | none => 1
  | some t => 2 * t.nodes
def stF : List (Option Sx) → List UInt8
  | [] => []
  | x :: r => stF r ++ itF x
def stW : List (Option Sx) → Nat
  | [] => 0
  | x :: r => stW r + itW x
theorem stF_snoc (l : List (Option Sx)) (x : Option Sx) : stF (l ++ [x]) = itF x ++ stF l := by
  induction l with
  | nil => simp [stF]
  | cons a r ih => simp [stF, ih]
theorem stW_snoc (l : List (Option Sx)) (x : Option Sx) : stW (l ++ [x]) = stW l + itW x := by
  induction l with
  | nil => simp [stW]
  | cons a r ih => simp only [List.cons_append, stW, ih]; omega
theorem itW_pos (x : Option Sx) : 1 ≤ itW x := by
  cases x with
  | none => exact Nat.le_refl _
  | some t => have := nodes_pos t; simp only [itW]; omega
theorem stW_len (l : List (Option Sx)) : l.length ≤ stW l := by
  induction l with
  | nil => exact Nat.le_refl _
  | cons a r ih => have := itW_pos a; simp only [List.length_cons, stW]; omega

/-- a value, or a list's end, to be put -/
def ItemAt (w : World) (B : Nat) (p : Value) : Option Sx → Prop
  | none => p = .pointer none
  | some t => ∃ b k v, p = .pointer (some ⟨b, k, none⟩) ∧ b < B ∧ w.rangeAt b k v.cells.toList ∧ RdI (fun k => k < B) w v t ∧ ∃ m, t.wide m = false
def Items (w : World) (B : Nat) (ps : List Value) (its : List (Option Sx)) : Prop := ps.length = its.length ∧ ∀ (j : Nat) (p : Value) (it : Option Sx), ps[j]? = some p → its[j]? = some it → ItemAt w B p it
theorem Items.nil (w : World) (B : Nat) : Items w B [] [] := ⟨rfl, fun j p it h => by simp at h⟩
theorem Items.snoc {w : World} {B : Nat} {ps : List Value} {its : List (Option Sx)} {p : Value} {it : Option Sx} (h : Items w B ps its) (hp : ItemAt w B p it) : Items w B (ps ++ [p]) (its ++ [it]) := by
  refine ⟨by simp [h.1], fun j q jt h1 h2 => ?_⟩
  rw [List.getElem?_append] at h1 h2
  rw [← h.1] at h2
  by_cases hj : j < ps.length
  · rw [if_pos hj] at h1 h2
    exact h.2 j q jt h1 h2
  · rw [if_neg hj] at h1 h2
    have e : j - ps.length = 0 := by
      rcases Nat.eq_zero_or_pos (j - ps.length) with e | e
      · exact e
      · rw [List.getElem?_eq_none (by simp; omega)] at h1; cases h1
    rw [e] at h1 h2
    simp at h1 h2
    subst h1 h2
    exact hp
theorem Items.pop {w : World} {B : Nat} {ps : List Value} {its : List (Option Sx)} (h : Items w B ps its) (hn : ps ≠ []) :
    ∃ ps' p its' it, ps = ps' ++ [p] ∧ its = its' ++ [it] ∧ Items w B ps' its' ∧ ItemAt w B p it := by
  have hn2 : its ≠ [] := fun e => hn (List.eq_nil_of_length_eq_zero (by have := h.1; rw [e] at this; exact this))
  obtain ⟨ps', p, rfl⟩ : ∃ ps' p, ps = ps' ++ [p] := ⟨_, _, (List.dropLast_concat_getLast hn).symm⟩
  obtain ⟨its', it, rfl⟩ : ∃ ps' p, its = ps' ++ [p] := ⟨_, _, (List.dropLast_concat_getLast hn2).symm⟩
  have hl : ps'.length = its'.length := by have := h.1; simpa using this
  refine ⟨ps', p, its', it, rfl, rfl, ⟨hl, fun j q jt h1 h2 => ?_⟩, ?_⟩
  · have e1 : j < ps'.length := (List.getElem?_eq_some_iff.1 h1).1
    exact h.2 j q jt (by rw [List.getElem?_append_left e1]; exact h1) (by rw [List.getElem?_append_left (hl ▸ e1)]; exact h2)
  · exact h.2 ps'.length p it (by simp) (by rw [hl]; simp)

theorem OwnG.form {w : World} {B size n : Nat} {v : Value} {xs : List Value} (h : OwnG w B size v n xs) (hn : n ≠ 0) : ∃ g o cap, v = .slice (some ⟨g, o, none⟩) n cap ∧ n ≤ cap ∧ cap ≤ maxLen ∧ w.rangeAt g o xs := by
  rcases h.2 with ⟨_, h2⟩ | ⟨g, o, cap, h2, _, _, h5, h6, _, h8⟩
  · exact absurd h2 hn
  · exact ⟨g, o, cap, h2, h5, h6, h8⟩
theorem OwnG.shape {w : World} {B size n : Nat} {v : Value} {xs : List Value} (h : OwnG w B size v n xs) : ∃ a cap, v = .slice a n cap := by
  rcases h.2 with ⟨h1, h2⟩ | ⟨g, o, cap, h2, _⟩
  · subst h2; exact ⟨_, _, h1⟩
  · exact ⟨_, _, h2⟩
theorem OwnG.pop {w : World} {B g o n cap : Nat} {xs : List Value} {x : Value} (h : OwnG w B 1 (.slice (some ⟨g, o, none⟩) (n + 1) cap) (n + 1) (xs ++ [x])) : OwnG w B 1 (.slice (some ⟨g, o, none⟩) n cap) n xs := by
  obtain ⟨h1, h2⟩ := h
  rcases h2 with ⟨h2, _⟩ | ⟨g', o', cap', h2, h3, h4, h5, h6, h7, h8⟩
  · cases h2
  · cases h2
    exact .made (by simp at h1; omega) h3 h4 (by omega) h6 h7 (fun j u hu => h8 j u (by rw [List.getElem?_append_left (List.getElem?_eq_some_iff.1 hu).1]; exact hu))

theorem infoPE : (Tryd.prog.info? 45).map (fun i => (i.zero, i.size, i.bytes)) = some (some (.pointer none), 1, 8) := by kernel_rfl
theorem news_cell {w : World} {h : Nat} {p : Value} (hc : w.cell? ⟨h, 0, none⟩ = some p) : ∀ (j : Nat) (u : Value), [p][j]? = some u → w.cell? ((⟨h, 0, none⟩ : Addr).add j) = some u := by
  intro j u hu
  match j with
  | 0 => simp at hu; subst hu; exact hc
  | j + 1 => simp at hu
/-- 'append(todo, p)' -/
theorem wp_append_P {o : Oper} {a : Act} {w : World} {B n : Nat} {v : Value} {xs : List Value} {K : Act → World → Prop} {Q : Exit → Act → World → Prop} (s x : Operand)
    (ho : o.op = .call { callee := .builtin .append, args := #[s, x], argTypes := #[46, 46] })
    (hs : a.eval s = v) (h : OwnG w B 1 v n xs) {g c : Nat} {p : Value} (hx : a.eval x = .slice (some ⟨g, 0, none⟩) 1 c) (hc : w.cell? ⟨g, 0, none⟩ = some p) (h1 : p.oneCell' = true) (hn : n ≤ 1000000) (hB : B ≤ w.heap.size)
    (hk : ∀ v' w', OwnG w' B 1 v' (n + 1) (xs ++ [p]) → w.grownBy w' v.ownBlock → (∀ k, v'.ownBlock = some k → v.ownBlock = some k ∨ w.heap.size ≤ k) → K (a.put o.dst v') w') : o.wp Tryd.prog a w K Q := by
  obtain ⟨i0, hi, hi2⟩ := Option.map_eq_some_iff.1 infoPE
  simp only [Prod.mk.injEq] at hi2
  obtain ⟨hz0, hz1, hz2⟩ := hi2
  exact wp_append_G s x 46 46 ho 45 i0 (.pointer none) 8 Tryd.underlying46 hi hz0 hz1 hz2 rfl (by decide) hs h _ hx 1 [p]
    (Src.ofSlice w Tryd.underlying46 ⟨g, 0, none⟩ 1 c [p] rfl (news_cell hc) (fun u hu => by simp at hu; subst hu; exact h1)) (by unfold maxLen; omega) (by omega) hB hk
theorem wpList_append_P {ops : Array Oper} {rest : List Oper} {o : Oper} {a : Act} {w : World} {B n : Nat} {v : Value} {xs : List Value} {Q : Exit → Act → World → Prop} (hgd : o.guard = none) (s x : Operand)
    (ho : o.op = .call { callee := .builtin .append, args := #[s, x], argTypes := #[46, 46] })
    (hs : a.eval s = v) (h : OwnG w B 1 v n xs) {g c : Nat} {p : Value} (hx : a.eval x = .slice (some ⟨g, 0, none⟩) 1 c) (hc : w.cell? ⟨g, 0, none⟩ = some p) (h1 : p.oneCell' = true) (hn : n ≤ 1000000) (hB : B ≤ w.heap.size)
    (hk : ∀ v' w', OwnG w' B 1 v' (n + 1) (xs ++ [p]) → w.grownBy w' v.ownBlock → (∀ k, v'.ownBlock = some k → v.ownBlock = some k ∨ w.heap.size ≤ k) → wpList Tryd.prog ops Q rest (a.put o.dst v') w') : wpList Tryd.prog ops Q (o :: rest) a w :=
  wpList_plain hgd fun _ hK => wp_append_P s x ho hs h hx hc h1 hn hB fun v' w' h1 h2 h3 => hK _ _ (hk v' w' h1 h2 h3)

/-- both rows of the call's own, apart -/
structure Two (v0 : World) (B : Nat) (w : World) (vo : Value) (l : List UInt8) (vt : Value) (ps : List Value) : Prop where
  out : OwnB w B vo l
  todo : OwnG w B 1 vt ps.length ps
  apart : ∀ k, vo.ownBlock = some k → vt.ownBlock ≠ some k
  below : Below B v0 w
  size : B ≤ w.heap.size
theorem Two.after {v0 w w' : World} {B : Nat} {vo vt : Value} {l : List UInt8} {ps : List Value} (h : Two v0 B w vo l vt ps) (hb : Below w.heap.size w w') : Two v0 B w' vo l vt ps :=
  ⟨h.out.after hb, h.todo.after hb, h.apart, h.below.trans (hb.mono h.size), Nat.le_trans h.size hb.size⟩
theorem Two.alloc {v0 w : World} {B : Nat} {vo vt : Value} {l : List UInt8} {ps : List Value} (h : Two v0 B w vo l vt ps) (o : Obj) : Two v0 B (w.alloc o) vo l vt ps := h.after ((Below.refl _ _).alloc (Nat.le_refl _) _)
/-- out has been written on -/
theorem Two.wrote {v0 w w' : World} {B : Nat} {vo vt vo' : Value} {l l' : List UInt8} {ps : List Value} (h : Two v0 B w vo l vt ps) (ho : OwnB w' B vo' l') (hb : But (fun k => vo.ownBlock = some k) w w') (hw : ∀ k, vo'.ownBlock = some k → vo.ownBlock = some k ∨ w.heap.size ≤ k) : Two v0 B w' vo' l' vt ps :=
  ⟨ho, h.todo.but hb (fun k hk e => h.apart k e hk), fun k hk => (hw k hk).elim (h.apart k) (fun e e' => by have := (h.todo.lt k e').2; omega), But.after h.below hb h.size (fun k hk => (h.out.own k hk).1), Nat.le_trans h.size hb.size⟩
theorem Two.wrote' {v0 w w' : World} {B : Nat} {vo vt vo' : Value} {l l' : List UInt8} {ps : List Value} (h : Two v0 B w vo l vt ps) (ho : OwnB w' B vo' l') (hb : w.grownBy w' vo.ownBlock) (hw : ∀ k, vo'.ownBlock = some k → vo.ownBlock = some k ∨ w.heap.size ≤ k) : Two v0 B w' vo' l' vt ps :=
  h.wrote ho (But.ofGrown hb fun k hk => hk) hw
/-- one more is to be put -/
theorem Two.pushed {v0 w w' : World} {B : Nat} {vo vt vt' : Value} {l : List UInt8} {ps ps' : List Value} (h : Two v0 B w vo l vt ps) (hn : OwnG w' B 1 vt' ps'.length ps') (hg : w.grownBy w' vt.ownBlock) (hw : ∀ k, vt'.ownBlock = some k → vt.ownBlock = some k ∨ w.heap.size ≤ k) : Two v0 B w' vo l vt' ps' := by
  have hb : But (fun k => vt.ownBlock = some k) w w' := But.ofGrown hg fun k hk => hk
  exact ⟨OwnG.but h.out hb (fun k hk e => h.apart k hk e), hn, fun k hk e => (hw k e).elim (h.apart k hk) (fun e' => by have := (h.out.own k hk).2; omega), But.after h.below hb h.size (fun k hk => (h.todo.lt k hk).1), Nat.le_trans h.size hb.size⟩

theorem wp_of_run {P : Program} {o : Oper} {a : Act} {w : World} {K : Act → World → Prop} {Q : Exit → Act → World → Prop} (v : Value) (w' : World) (hr : (execOp a.eval o).run P w = .ok (.value v) w') (h : K (a.put o.dst v) w') : o.wp P a w K Q := by
  unfold Oper.wp
  rw [hr]
  exact h

theorem range_at {w w' : World} {B b k : Nat} {v : SV} (h : w.rangeAt b k v.cells.toList) (hb : b < B) (hB : Below B w w') (j : Nat) {u : Value} (hu : v.cells[j]? = some u) : w'.cell? ⟨b, k + j, none⟩ = some u :=
  (hB.cell (p := ⟨b, k + j, none⟩) hb).trans (h j u (by simpa using hu))
theorem formL_drop {ks : List Sx} (i : Nat) (h : i < ks.length) : Sx.formL (ks.drop (ks.length - (i + 1))) = (ks[ks.length - 1 - i]'(by omega)).form ++ Sx.formL (ks.drop (ks.length - i)) := by
  rw [List.drop_eq_getElem_cons (by omega)]
  simp only [Sx.formL]
  congr 2 <;> (try congr 1) <;> omega
theorem nodesL_drop {ks : List Sx} (i : Nat) (h : i < ks.length) : Sx.nodesL (ks.drop (ks.length - (i + 1))) = (ks[ks.length - 1 - i]'(by omega)).nodes + Sx.nodesL (ks.drop (ks.length - i)) := by
  rw [List.drop_eq_getElem_cons (by omega)]
  simp only [Sx.nodesL]
  congr 2 <;> (try congr 1) <;> omega

/-- the form, or the error -/
def PutR (s : Sx) (w : World) (e : Ending) (w' : World) : Prop :=
  (s.may = true ∧ ∃ v, e = .returned (.tuple #[v, .int .i64 0]) ∧ OwnB w' w.heap.size v s.form ∧ Below w.heap.size w w') ∨
  (s.may = false ∧ e = .returned (.tuple #[.slice none 0 0, .int .i64 4]) ∧ Below w.heap.size w w')


set_option maxHeartbeats 16000000 in
set_option maxRecDepth 100000 in
theorem put_all (s : Sx) (v : SV) (w : World) (hr : Rd w v s) (m : Nat) (hw : s.wide m = false) (ht : Tab w) : Calls Tryd.prog 13 #[v.val] w (PutR s w) := by
  obtain ⟨vl, vh, a1, n1, k1, a2, n2, k2, a3, n3, k3⟩ := v
  have hb0 : Below w.heap.size w (w.alloc (.cells #[.bool vl, .bool vh, .slice a1 n1 k1, .slice a2 n2 k2, .slice a3 n3 k3] 25)) := (Below.refl _ _).alloc (Nat.le_refl _) _
  have X0 := Box.new w 25 #[.bool vl, .bool vh, .slice a1 n1 k1, .slice a2 n2 k2, .slice a3 n3 k3]
  have hrB := (hr.there.mono (ok' := fun k => k < w.heap.size + 1) (fun b hb => by have := hb.2; omega)).after hb0
  obtain ⟨my, hmy⟩ : ∃ my, my = s.may := ⟨_, rfl⟩
  have HMY := Lib.hid hmy
  have CALL := Lib.hid (may_any s ⟨vl, vh, a1, n1, k1, a2, n2, k2, a3, n3, k3⟩ (w.alloc (.cells #[.bool vl, .bool vh, .slice a1 n1 k1, .slice a2 n2 k2, .slice a3 n3 k3] 25)) (hr.after hb0) m hw (ht.after hb0))
  rw [← hmy] at CALL
  have HX := Lib.hid X0
  have HRB := Lib.hid hrB
  have HW := Lib.hid hw
  have HT := Lib.hid ht
  clear hrB hmy hr ht hw X0
  show Calls _ _ #[.agg #[.bool vl, .bool vh, .slice a1 n1 k1, .slice a2 n2 k2, .slice a3 n3 k3]] _ _
  go_enter Tryd.func13, Tryd.ntmps13
  go_upto_region 1 with fail
  change Code.wp _ _ _ _ (w.alloc (.cells #[.bool vl, .bool vh, .slice a1 n1 k1, .slice a2 n2 k2, .slice a3 n3 k3] 25))
  have hz0 : (w.alloc (.cells #[.bool vl, .bool vh, .slice a1 n1 k1, .slice a2 n2 k2, .slice a3 n3 k3] 25)).heap.size = w.heap.size + 1 := by simp
  have HZ0 := Lib.hid hz0
  clear hz0
  generalize (w.alloc (.cells #[.bool vl, .bool vh, .slice a1 n1 k1, .slice a2 n2 k2, .slice a3 n3 k3] 25)) = u0 at *
  go_wp2_with (refine wpList_load_box rfl 25 _ rfl HX.out (by rfl) Tryd.underlying25 rfl (by kernel_rfl) ?_)
  refine CALL.out.mono ?_
  rintro e v0 ⟨rfl, b1⟩
  have HB0 := hb0.trans (b1.mono hb0.size)
  have HX0 := Lib.hid (HX.out.after b1)
  have HR0 := Lib.hid (HRB.out.after b1)
  have hz1 : w.heap.size + 1 ≤ v0.heap.size := by have := b1.size; rw [HZ0.out] at this; exact this
  clear b1 CALL HX HRB hb0
  cases my with
  | false =>
    go_wp2_with fail
    go_ret2
    exact .inr ⟨HMY.out.symm, rfl, HB0⟩
  | true =>
    have hfl : s.form.length ≤ 4096 ∧ s.nodes ≤ 512 := by
      have := HMY.out
      simp only [Sx.may, Bool.true_eq, Bool.and_eq_true, decide_eq_true_eq] at this
      exact ⟨this.2, this.1.1.2⟩
    obtain ⟨hfl, hnd⟩ := hfl
    obtain ⟨B, hBd⟩ : ∃ B, B = w.heap.size + 1 := ⟨_, rfl⟩
    have HBD := Lib.hid hBd
    have hI0 : Items v0 B [.pointer (some ⟨w.heap.size, 0, none⟩)] [some s] := by
      have := (Items.nil v0 B).snoc (it := some s) (p := .pointer (some ⟨w.heap.size, 0, none⟩)) ⟨w.heap.size, 0, ⟨vl, vh, a1, n1, k1, a2, n2, k2, a3, n3, k3⟩, rfl, by omega, fun j u hu => by rw [Nat.zero_add]; exact HX0.out.cell j (by simpa [SV.cells] using hu), by rw [hBd]; exact HR0.out, _, HW.out⟩
      simpa using this
    have hT0 : Two v0 B (v0.alloc (.cells #[.pointer (some ⟨w.heap.size, 0, none⟩)] 45)) (.slice none 0 0) [] (.slice (some ⟨v0.heap.size, 0, none⟩) 1 1) [.pointer (some ⟨w.heap.size, 0, none⟩)] :=
      ⟨OwnB.nil _ _, OwnG.new v0 B 1 (by omega) #[.pointer (some ⟨w.heap.size, 0, none⟩)] 45 1 1 (Nat.le_refl _) (by unfold maxLen; omega) rfl, (fun k hk => by cases hk), (Below.refl _ _).alloc (by omega) _, by simp; omega⟩
    rw [← hBd] at hz1
    have HI0 := Lib.hid hI0
    have HT0 := Lib.hid hT0
    have HSW : Hid (stW [some s] ≤ 1024) := Lib.hid (by simp only [stW, itW]; omega)
    clear hBd hI0 hT0
    go_upto_region 5 with fail
    go_loopg [4, 5, 6, 7, 46, 52] (stW [some s]) (fun gk a b _ _ _ _ wr => ∃ (l : List UInt8) (its : List (Option Sx)) (ps : List Value), Two v0 B wr a l b ps ∧ Items v0 B ps its ∧ l ++ stF its = s.form ∧ stW its = gk ∧ gk ≤ 1024)
    case atStart => exact ⟨[], [some s], _, HT0.out, HI0.out, by simp [stF, itF], rfl, HSW.out⟩
    case round =>
      obtain ⟨l, its, ps, hT, hI, hF, hW, hgk⟩ := hrel
      obtain ⟨wa, rfl⟩ : ∃ wa : World, wa = wr := ⟨_, rfl⟩
      clear HT0 HI0 HSW
      have HF := Lib.hid hF
      have HWt := Lib.hid hW
      have HTW := Lib.hid hT
      have hll : l.length ≤ 4096 := by have := congrArg List.length hF; simp only [List.length_append] at this; omega
      have hpl : ps.length ≤ 1024 := by have := stW_len its; have := hI.1; omega
      clear hF hW hT
      by_cases hps : ps = []
      · subst hps
        have hits : its = [] := List.eq_nil_of_length_eq_zero (by have := hI.1; simpa using this.symm)
        subst hits
        obtain ⟨ta, tc, rfl⟩ := HTW.out.todo.shape
        have HI := Lib.hid hI
        clear hI
        go_wp2_with fail
        go_ret2
        have hE := HF.out
        simp only [stF, List.append_nil] at hE
        subst hE
        exact .inl ⟨HMY.out.symm, _, rfl, HTW.out.out.le (by have := HBD.out; omega), HB0.trans (HTW.out.below.mono (by have := HBD.out; omega))⟩
      · obtain ⟨qs, p, jts, it, rfl, rfl, hI2, hP⟩ := hI.pop hps
        have hk1 : (qs ++ [p]).length = qs.length + 1 := by simp
        have hT := HTW.out
        obtain ⟨g, o, cap, hv, hcap1, hcap2, hrange⟩ := hT.todo.form (by rw [hk1]; omega)
        rw [hk1] at hv hcap1
        subst hv
        have htop : wa.cell? ⟨g, o + qs.length, none⟩ = some p := hrange qs.length p (by simp)
        have hpop : Two v0 B wa u4 l (.slice (some ⟨g, o, none⟩) qs.length cap) qs := by
          have h0 := hT.todo
          rw [hk1] at h0
          exact ⟨hT.out, h0.pop, fun k hk => hT.apart k hk, hT.below, hT.size⟩
        have HTP := Lib.hid hpop
        have HI2 := Lib.hid hI2
        have HP := Lib.hid hP
        have hWit := HWt.out
        rw [stW_snoc] at hWit
        have hFit := HF.out
        rw [stF_snoc] at hFit
        have HFi := Lib.hid hFit
        have HWi := Lib.hid hWit
        have hqs : qs.length ≤ 1023 := by rw [hk1] at hpl; omega
        unfold maxLen at hcap2
        clear hk1 hT hrange hpop hI2 hP hI hWit hFit HWt HF HTW hps hpl
        cases it with
        | none =>
          have hp := HP.out
          simp only [ItemAt] at hp
          subst hp
          go_upto_region 12 with fail
          go_wp2_with (refine wpList_append_B3 rfl _ _ rfl rfl (HTP.out.out.alloc _) (l2 := [41]) rfl (sl_cell1 _ 41 _ rfl) (by omega) (by simp; have := HTP.out.size; omega) ?_; intro v3 w3 ho3 hg3 hw3)
          have hT3 := (HTP.out.alloc _).wrote' ho3 hg3 hw3
          have HT3 := Lib.hid hT3
          clear ho3 hg3 hw3 hT3
          go_roundg (stW jts)
          case measure => have := HWi.out; simp only [itW] at this; omega
          case rel => exact ⟨_, jts, _, HT3.out, HI2.out, by have := HFi.out; simp only [itF] at this; rw [← this]; simp, rfl, by have := HWi.out; omega⟩
        | some t =>
          obtain ⟨b, k, tv, hpv, hbB, hrg, hrd, mt, hwt⟩ := HP.out
          subst hpv
          obtain ⟨tl, th, thi, tda, tks⟩ := t
          obtain ⟨hvl, hvh, hs1, hs2, hn, hnc, hcm, TK, hrow, hkk⟩ := hrd.parts
          obtain ⟨in1, in2, in3⟩ := hrd.inb
          obtain ⟨vl2, vh2, b1, m1, j1, b2, m2, j2, b3, m3, j3⟩ := tv
          dsimp only at hvl hvh hs1 hs2 hn hnc hcm hrow hkk in1 in2 in3
          obtain rfl : vl2 = tl := hvl
          obtain rfl : vh2 = th := hvh
          replace hn : m3 = tks.length := hn
          replace hs1 : Sl v0 b1 m1 j1 thi := hs1
          replace hs2 : Sl v0 b2 m2 j2 tda := hs2
          replace hkk : ∀ i (hi : i < tks.length), RdI (fun k => k < B) v0 (TK i) tks[i] := hkk
          obtain ⟨_, wt3, wt1, wt2, wtk⟩ := wide_no hwt
          replace wt1 : thi.length ≤ 5000 := wt1
          replace wt2 : tda.length ≤ 5000 := wt2
          have hm1 : m1 ≤ 5000 := by rw [hs1.1]; exact wt1
          have hm2 : m2 ≤ 5000 := by rw [hs2.1]; exact wt2
          have HS1 := Lib.hid hs1
          have HS2 := Lib.hid hs2
          have HIN1 := Lib.hid in1
          have HIN2 := Lib.hid in2
          have HRow := Lib.hid hrow
          have HKK := Lib.hid hkk
          have HRG := Lib.hid hrg
          have HWK := Lib.hid wtk
          subst hn
          unfold maxLen at hcm
          have HIN3 := Lib.hid in3
          clear hs1 hs2 in1 in2 hrow hkk hrg hrd hwt wtk HP in3
          have q0 : wa.cell? ⟨b, k, none⟩ = some (.bool vl2) := range_at HRG.out hbB HTP.out.below 0 rfl
          cases vl2 with
          | true =>
            go_upto_region 15 with (refine wpList_append_B3 rfl _ _ rfl rfl (HTP.out.out.alloc _) (l2 := [40]) rfl (sl_cell1 _ 40 _ rfl) (by omega) (by simp; have := HTP.out.size; omega) ?_; intro v3 w3 ho3 hg3 hw3)
            have hT3 := (HTP.out.alloc _).wrote' ho3 hg3 hw3
            have HT3 := Lib.hid hT3
            clear ho3 hg3 hw3 hT3 q0 htop HTP
            go_upto_region 16 with (refine wpList_append_P rfl _ _ rfl rfl (OwnG.alloc HT3.out.todo _) (c := 1) rfl (Box.cell (Box.new _ _ _) 0 rfl) rfl (by omega) (by simp; have := HT3.out.size; omega) ?_; intro v4 w4 ho4 hg4 hw4)
            have hT4 := (HT3.out.alloc _).pushed (ps' := qs ++ [.pointer none]) (by simpa using ho4) hg4 hw4
            have HT4 := Lib.hid hT4
            clear ho4 hg4 hw4 hT4 HT3
            have q4 : w4.cell? ⟨b, k + 4, none⟩ = some (.slice b3 tks.length j3) := range_at HRG.out hbB HT4.out.below 4 rfl
            go_wp2_with fail
            go_loopw [5, 7, 68] (fun c _ i wr => ∃ n : Nat, n ≤ tks.length ∧ i = .int .i64 n ∧ ∃ its2 ps2, Two v0 B wr v3 (l ++ [40]) c ps2 ∧ Items v0 B ps2 its2 ∧ Hid (stF its2 = Sx.formL (tks.drop (tks.length - n)) ++ 41 :: stF jts) ∧ Hid (stW its2 = stW jts + 1 + 2 * Sx.nodesL (tks.drop (tks.length - n)))) (fun _ _ i _ => tks.length - (intOf i).toNat)
            case atStart => exact ⟨0, Nat.zero_le _, rfl, jts ++ [none], _, HT4.out, HI2.out.snoc rfl, Lib.hid (by rw [stF_snoc, Nat.sub_zero, List.drop_length]; rfl), Lib.hid (by rw [stW_snoc, Nat.sub_zero, List.drop_length]; rfl)⟩
            case round =>
              clear q4
              obtain ⟨n, hnl, rfl, its2, ps2, hT2, hI5, HF2, HW2⟩ := hrel
              obtain ⟨ta, tc, hc⟩ := hT2.todo.shape
              subst hc
              have HT2 := Lib.hid hT2
              have HI5 := Lib.hid hI5
              have hp2 : ps2.length ≤ 1024 := by
                have e1 := stW_len its2
                have e2 := hI5.1
                have e3 := HW2.out
                have e4 := HWi.out
                have e5 := Sx.nodesL_append (tks.take (tks.length - n)) (tks.drop (tks.length - n))
                rw [List.take_append_drop] at e5
                simp only [itW, Sx.nodes] at e4
                omega
              clear hT2 hI5
              by_cases hlt : n < tks.length
              · obtain ⟨gb, ob, rfl, _⟩ := HRow.out.rangeB hlt
                obtain ⟨q, hq⟩ : ∃ q, q = tks.length - 1 - n := ⟨_, rfl⟩
                have HQ := Lib.hid hq
                have hql : q < tks.length := by omega
                have e1 : IntKind.i64.wrap ((tks.length : Int) - 1) = (tks.length : Int) - 1 := IntWalk.i64_in _ ⟨by omega, by omega⟩
                have e2 : IntKind.i64.wrap ((tks.length : Int) - 1 - (n : Int)) = (q : Int) := by rw [show (tks.length : Int) - 1 - (n : Int) = (q : Int) by omega]; exact IntWalk.i64_in _ ⟨by omega, by omega⟩
                have E1 := Lib.hid e1
                have E2 := Lib.hid e2
                have hgb : gb < B := by rcases HIN3.out with h0 | h0; · omega
                                        · exact h0 gb ob none rfl
                have hq4 : ∀ w', Below B v0 w' → w'.cell? ⟨b, k + 4, none⟩ = some (.slice (some ⟨gb, ob, none⟩) tks.length j3) := fun w' h => range_at HRG.out hbB h 4 rfl
                have HQ4 := Lib.hid hq4
                clear hq e1 e2 hq4
                go_upto_region 19 with fail
                have hKS : Keeps (fun w' => Below B v0 w') := fun w w' h b => h.trans (b.mono (Nat.le_trans hz1 h.size))
                refine wp_region_U (w := wr) (fun w' => Below B v0 w') rfl (HT2.out.below.drew) ?_
                refine wpU_val 0 hKS rfl (by kernel_rfl) (by kernel_rfl) (by kernel_rfl) rfl (fun _ _ _ _ h => h) (.slice ta ps2.length tc) (fun w' h => by simp [go_sem]) ?_
                simp only [Act.put, List.setIfInBounds_toArray, List.set_cons_zero, List.set_cons_succ]
                refine wpU_val 1 hKS rfl (by kernel_rfl) (by kernel_rfl) (by kernel_rfl) rfl (fun _ _ _ _ h => h) (.pointer (some ⟨b, k, none⟩)) (fun w' h => by simp [go_sem]) ?_
                simp only [Act.put, List.setIfInBounds_toArray, List.set_cons_zero, List.set_cons_succ]
                refine wpU_val 2 hKS rfl (by kernel_rfl) (by kernel_rfl) (by kernel_rfl) rfl (fun _ _ _ _ h => h) (.pointer (some ⟨b, k, none⟩)) (fun w' h => by simp [go_sem]) ?_
                simp only [Act.put, List.setIfInBounds_toArray, List.set_cons_zero, List.set_cons_succ]
                refine wpU_val 3 hKS rfl (by kernel_rfl) (by kernel_rfl) (by kernel_rfl) rfl (fun _ _ _ _ h => h) (.pointer (some ⟨b, k + 4, none⟩)) (fun w' h => by simp [go_sem]) ?_
                simp only [Act.put, List.setIfInBounds_toArray, List.set_cons_zero, List.set_cons_succ]
                refine wpU_val 4 hKS rfl (by kernel_rfl) (by kernel_rfl) (by kernel_rfl) rfl (fun _ _ _ _ h => h) (.slice (some ⟨gb, ob, none⟩) tks.length j3) (fun w' h => by simp [go_sem, HQ4.out w' h]) ?_
                simp only [Act.put, List.setIfInBounds_toArray, List.set_cons_zero, List.set_cons_succ]
                refine wpU_val 5 hKS rfl (by kernel_rfl) (by kernel_rfl) (by kernel_rfl) rfl (fun _ _ _ _ h => h) (.pointer (some ⟨b, k, none⟩)) (fun w' h => by simp [go_sem]) ?_
                simp only [Act.put, List.setIfInBounds_toArray, List.set_cons_zero, List.set_cons_succ]
                refine wpU_val 6 hKS rfl (by kernel_rfl) (by kernel_rfl) (by kernel_rfl) rfl (fun _ _ _ _ h => h) (.pointer (some ⟨b, k, none⟩)) (fun w' h => by simp [go_sem]) ?_
                simp only [Act.put, List.setIfInBounds_toArray, List.set_cons_zero, List.set_cons_succ]
                refine wpU_val 7 hKS rfl (by kernel_rfl) (by kernel_rfl) (by kernel_rfl) rfl (fun _ _ _ _ h => h) (.pointer (some ⟨b, k + 4, none⟩)) (fun w' h => by simp [go_sem]) ?_
                simp only [Act.put, List.setIfInBounds_toArray, List.set_cons_zero, List.set_cons_succ]
                refine wpU_val 8 hKS rfl (by kernel_rfl) (by kernel_rfl) (by kernel_rfl) rfl (fun _ _ _ _ h => h) (.slice (some ⟨gb, ob, none⟩) tks.length j3) (fun w' h => by simp [go_sem, HQ4.out w' h]) ?_
                simp only [Act.put, List.setIfInBounds_toArray, List.set_cons_zero, List.set_cons_succ]
                refine wpU_val 9 hKS rfl (by kernel_rfl) (by kernel_rfl) (by kernel_rfl) rfl (fun _ _ _ _ h => h) (.int .i64 tks.length) (fun w' h => by simp [go_sem]) ?_
                simp only [Act.put, List.setIfInBounds_toArray, List.set_cons_zero, List.set_cons_succ]
                refine wpU_val 10 hKS rfl (by kernel_rfl) (by kernel_rfl) (by kernel_rfl) rfl (fun _ _ _ _ h => h) (.int .i64 ((tks.length : Int) - 1)) (fun w' h => by simp [go_sem, E1.out]) ?_
                simp only [Act.put, List.setIfInBounds_toArray, List.set_cons_zero, List.set_cons_succ]
                refine wpU_val 11 hKS rfl (by kernel_rfl) (by kernel_rfl) (by kernel_rfl) rfl (fun _ _ _ _ h => h) (.int .i64 n) (fun w' h => by simp [go_sem]) ?_
                simp only [Act.put, List.setIfInBounds_toArray, List.set_cons_zero, List.set_cons_succ]
                refine wpU_val 12 hKS rfl (by kernel_rfl) (by kernel_rfl) (by kernel_rfl) rfl (fun _ _ _ _ h => h) (.int .i64 q) (fun w' h => by simp [go_sem, E2.out]) ?_
                simp only [Act.put, List.setIfInBounds_toArray, List.set_cons_zero, List.set_cons_succ]
                refine wpU_val 13 hKS rfl (by kernel_rfl) (by kernel_rfl) (by kernel_rfl) rfl (fun _ _ _ _ h => h) (.pointer (some ⟨gb, ob + q * 5, none⟩)) (fun w' h => by simp [go_sem, hql]) ?_
                simp only [Act.put, List.setIfInBounds_toArray, List.set_cons_zero, List.set_cons_succ]
                refine wpU_run 14 rfl (by kernel_rfl) rfl (fun w1 => .slice (some ⟨w1.heap.size, 0, none⟩) 1 1) (fun w1 => w1.alloc (.cells #[.pointer (some ⟨gb, ob + q * 5, none⟩)] 45)) (fun w1 b1 s1 => ⟨by simp [go_sem], hKS _ _ s1 ((Below.refl _ _).alloc (Nat.le_refl _) _), ?_⟩)
                simp only [Act.put, List.setIfInBounds_toArray, List.set_cons_zero, List.set_cons_succ]
                have T6 := ((HT2.out.after ((Below.refl _ _).drew)).after b1).alloc (.cells #[.pointer (some ⟨gb, ob + q * 5, none⟩)] 45)
                have X6 := Box.new w1 45 #[.pointer (some ⟨gb, ob + q * 5, none⟩)]
                clear b1 s1
                generalize w1.alloc (.cells #[.pointer (some ⟨gb, ob + q * 5, none⟩)] 45) = w6 at *
                generalize w1.heap.size = h6 at *
                refine wpU_one 15 rfl (by kernel_rfl) rfl (fun w7 b7 s7 => wp_append_P (.tmp 71) (.tmp 85) rfl rfl (T6.after b7).todo (c := 1) rfl ((X6.after b7).cell 0 rfl) rfl (by omega) (T6.after b7).size (fun v8 w8 ho8 hg8 hw8 => ⟨((T6.after b7).pushed (ps' := ps2 ++ [.pointer (some ⟨gb, ob + q * 5, none⟩)]) (by simpa using ho8) hg8 hw8).below, ?_⟩))
                simp only [Act.put, List.setIfInBounds_toArray, List.set_cons_zero, List.set_cons_succ]
                have T8 := (T6.after b7).pushed (ps' := ps2 ++ [.pointer (some ⟨gb, ob + q * 5, none⟩)]) (by simpa using ho8) hg8 hw8
                clear ho8 hg8 hw8 b7 s7 X6 T6
                refine wpU_val 16 hKS rfl (by kernel_rfl) (by kernel_rfl) (by kernel_rfl) rfl (fun _ _ _ _ h => h) v8 (fun w' h => by simp [go_sem]) ?_
                simp only [Act.put, List.setIfInBounds_toArray, List.set_cons_zero, List.set_cons_succ]
                refine wpU_done (by kernel_rfl) ?_
                intro w9 b9 s9
                have T9 := Lib.hid (T8.after b9)
                clear T8 b9 s9 hKS HQ4
                go_wp2_with fail
                go_roundw
                case rel =>
                  refine ⟨n + 1, by omega, by go_num, its2 ++ [some tks[q]], _, T9.out, HI5.out.snoc ⟨gb, ob + q * 5, TK q, rfl, hgb, HRow.out.rangeA hql, HKK.out q hql, _, HWK.out _ (List.getElem_mem hql)⟩, Lib.hid ?_, Lib.hid ?_⟩
                  · rw [stF_snoc, HF2.out, formL_drop n hlt]
                    have hq := HQ.out
                    subst hq
                    simp [itF]
                  · rw [stW_snoc, HW2.out, nodesL_drop n hlt]
                    have hq := HQ.out
                    subst hq
                    simp only [itW]
                    omega
                case measure => simp [intOf]; omega
              · have hnn : n = tks.length := by omega
                subst hnn
                have hF3 := HF2.out
                have hW3 := HW2.out
                rw [Nat.sub_self, List.drop_zero] at hF3 hW3
                have HF3 := Lib.hid hF3
                have HW3 := Lib.hid hW3
                clear hF3 hW3 HF2 HW2
                go_wp2_with fail
                go_roundg (stW its2)
                case measure => have e1 := HWi.out; have e2 := HW3.out; simp only [itW, Sx.nodes] at e1; omega
                case rel =>
                  refine ⟨_, its2, ps2, HT2.out, HI5.out, ?_, rfl, ?_⟩
                  · have e1 := HFi.out
                    rw [← e1, HF3.out]
                    simp only [itF]
                    rw [form_def, if_pos rfl]
                    simp
                  · have e1 := HWi.out
                    have e2 := HW3.out
                    simp only [itW, Sx.nodes] at e1
                    omega
          | false =>
            have q1 : wa.cell? ⟨b, k + 1, none⟩ = some (.bool vh2) := range_at HRG.out hbB HTP.out.below 1 rfl
            cases vh2 with
            | false =>
              have q3 : wa.cell? ⟨b, k + 3, none⟩ = some (.slice b2 m2 j2) := range_at HRG.out hbB HTP.out.below 3 rfl
              go_wp2_with fail
              refine (put_any u4 l b2 m2 j2 tda B wa HTP.out.out HTP.out.size (HS2.out.keep (HIN2.out.imp id (fun h b o s e => HTP.out.below.block b (h b o s e)))) (HIN2.out.mono (fun b hb e => by have := (HTP.out.out.own b e).1; omega)) (HT.out.after (HB0.trans (HTP.out.below.mono (by have := HBD.out; omega)))) (by omega) (by omega)).mono ?_
              rintro e w12 ⟨v12, rfl, ho12, hb12, hw12⟩
              have T12 := Lib.hid (HTP.out.wrote ho12 hb12 hw12)
              clear ho12 hb12 hw12 q3
              go_wp2_with fail
              go_roundg (stW jts)
              case measure => have := HWi.out; simp only [itW, Sx.nodes] at this; omega
              case rel => exact ⟨_, jts, qs, T12.out, HI2.out, by have := HFi.out; simp only [itF] at this; rw [form_def, if_neg (by simp)] at this; rw [← this]; simp, rfl, by have := HWi.out; omega⟩
            | true =>
              have hq2 : ∀ w', Below B v0 w' → w'.cell? ⟨b, k + 2, none⟩ = some (.slice b1 m1 j1) := fun w' h => range_at HRG.out hbB h 2 rfl
              have HQ2 := Lib.hid hq2
              clear hq2
              have hth := textL_len thi (by omega)
              go_upto_region 9 with fail
              clear q0 q1
              have hKS : Keeps (fun w' => Below B v0 w') := fun w w' h b => h.trans (b.mono (Nat.le_trans hz1 h.size))
              have T0 := HTP.out.after ((Below.refl _ _).drew)
              refine wp_region_U (w := wa) (fun w' => Below B v0 w') rfl (HTP.out.below.drew) ?_
              refine wpU_val 0 hKS rfl (by kernel_rfl) (by kernel_rfl) (by kernel_rfl) rfl (fun _ _ _ _ h => h) u4 (fun w' h => by simp [go_sem]) ?_
              simp only [Act.put, List.setIfInBounds_toArray, List.set_cons_zero, List.set_cons_succ]
              refine wpU_val 3 hKS rfl (by kernel_rfl) (by kernel_rfl) (by kernel_rfl) rfl (fun _ _ _ _ h => h) (.pointer (some ⟨b, k, none⟩)) (fun w' h => by simp [go_sem]) ?_
              simp only [Act.put, List.setIfInBounds_toArray, List.set_cons_zero, List.set_cons_succ]
              refine wpU_val 4 hKS rfl (by kernel_rfl) (by kernel_rfl) (by kernel_rfl) rfl (fun _ _ _ _ h => h) (.pointer (some ⟨b, k, none⟩)) (fun w' h => by simp [go_sem]) ?_
              simp only [Act.put, List.setIfInBounds_toArray, List.set_cons_zero, List.set_cons_succ]
              refine wpU_val 5 hKS rfl (by kernel_rfl) (by kernel_rfl) (by kernel_rfl) rfl (fun _ _ _ _ h => h) (.pointer (some ⟨b, k + 2, none⟩)) (fun w' h => by simp [go_sem]) ?_
              simp only [Act.put, List.setIfInBounds_toArray, List.set_cons_zero, List.set_cons_succ]
              refine wpU_val 6 hKS rfl (by kernel_rfl) (by kernel_rfl) (by kernel_rfl) rfl (fun _ _ _ _ h => h) (.slice b1 m1 j1) (fun w' h => by simp [go_sem, HQ2.out w' h]) ?_
              simp only [Act.put, List.setIfInBounds_toArray, List.set_cons_zero, List.set_cons_succ]
              generalize wa.drew = x0 at *
              refine wpU_two 1 8 rfl rfl (by kernel_rfl) rfl rfl (fun y1 b1_ s1_ => wp_of_run (.slice (some ⟨y1.heap.size, 0, none⟩) 1 1) (y1.alloc (.cells #[.int .u8 91] 5)) (by simp [go_sem]) ⟨hKS _ _ s1_ ((Below.refl _ _).alloc (Nat.le_refl _) _), ?_⟩) (fun y1 b1_ s1_ => wp_of_run (.slice (some ⟨y1.heap.size, 0, none⟩) 1 1) (y1.alloc (.cells #[.int .u8 93] 5)) (by simp [go_sem]) ⟨hKS _ _ s1_ ((Below.refl _ _).alloc (Nat.le_refl _) _), ?_⟩)
              · simp only [Act.put, List.setIfInBounds_toArray, List.set_cons_zero, List.set_cons_succ]
                have T1 := T0.after b1_
                have A1 : Below y1.heap.size y1 (y1.alloc (.cells #[.int .u8 91] 5)) := (Below.refl _ _).alloc (Nat.le_refl _) _
                have TT1 := T1.after A1
                have Z1 := sl_cell1 y1 91 91 rfl
                clear b1_ s1_ A1 T1
                generalize y1.alloc (.cells #[.int .u8 91] 5) = x1 at *
                generalize y1.heap.size = h1 at *
                refine wpU_two 2 8 rfl rfl (by kernel_rfl) rfl rfl (fun y2 b2_ s2_ => wp_append_B3 _ _ rfl rfl (TT1.after b2_).out (l2 := [91]) rfl (Z1.after b2_) (by omega) (TT1.after b2_).size (fun v2_ x2 ho2 hg2 hw2 => ⟨((TT1.after b2_).wrote' ho2 hg2 hw2).below, ?_⟩)) (fun y2 b2_ s2_ => wp_of_run (.slice (some ⟨y2.heap.size, 0, none⟩) 1 1) (y2.alloc (.cells #[.int .u8 93] 5)) (by simp [go_sem]) ⟨hKS _ _ s2_ ((Below.refl _ _).alloc (Nat.le_refl _) _), ?_⟩)
                · simp only [Act.put, List.setIfInBounds_toArray, List.set_cons_zero, List.set_cons_succ]
                  have T2 := TT1.after b2_
                  have R2 := Z1.after b2_
                  have TT2 := T2.wrote' ho2 hg2 hw2
                  clear b2_ s2_ T2 ho2 hg2 hw2 R2
                  refine wpU_two 7 8 rfl rfl (by kernel_rfl) rfl rfl (fun y3 b3_ s3_ => wp_callR 26 #[v2_, .slice b1 m1 j1] (by simp [go_sem]) _ (put_any v2_ (l ++ [91]) b1 m1 j1 thi B y3 (TT2.after b3_).out (TT2.after b3_).size (HS1.out.keep (HIN1.out.imp id (fun h b o s e => (TT2.after b3_).below.block b (h b o s e)))) (HIN1.out.mono (fun b hb e => by have := ((TT2.after b3_).out.own b e).1; omega)) (HT.out.after (HB0.trans ((TT2.after b3_).below.mono (by have := HBD.out; omega)))) (by omega) (by simp only [List.length_append, List.length_cons, List.length_nil]; omega)) (fun e x3 h3_ => ?_)) (fun y3 b3_ s3_ => wp_of_run (.slice (some ⟨y3.heap.size, 0, none⟩) 1 1) (y3.alloc (.cells #[.int .u8 93] 5)) (by simp [go_sem]) ⟨hKS _ _ s3_ ((Below.refl _ _).alloc (Nat.le_refl _) _), ?_⟩)
                  · obtain ⟨v3_, rfl, ho3, hb3, hw3⟩ := h3_
                    have T3 := TT2.after b3_
                    have TT3 := T3.wrote ho3 hb3 hw3
                    refine ⟨_, rfl, TT3.below, ?_⟩
                    simp only [Act.put, List.setIfInBounds_toArray, List.set_cons_zero, List.set_cons_succ]
                    clear b3_ s3_ T3 ho3 hb3 hw3
                    refine wpU_one 8 rfl (by kernel_rfl) rfl (fun y4 b4_ s4_ => wp_of_run (.slice (some ⟨y4.heap.size, 0, none⟩) 1 1) (y4.alloc (.cells #[.int .u8 93] 5)) (by simp [go_sem]) ⟨hKS _ _ s4_ ((Below.refl _ _).alloc (Nat.le_refl _) _), ?_⟩)
                    simp only [Act.put, List.setIfInBounds_toArray, List.set_cons_zero, List.set_cons_succ]
                    have TT4 := (TT3.after b4_).alloc (.cells #[.int .u8 93] 5)
                    have Z4 := sl_cell1 y4 93 93 rfl
                    clear b4_ s4_
                    generalize y4.alloc (.cells #[.int .u8 93] 5) = x4 at *
                    generalize y4.heap.size = h4 at *
                    refine wpU_one 9 rfl (by kernel_rfl) rfl (fun y5 b5_ s5_ => wp_append_B3 _ _ rfl rfl (TT4.after b5_).out (l2 := [93]) rfl (Z4.after b5_) (by simp only [List.length_append, List.length_cons, List.length_nil]; omega) (TT4.after b5_).size (fun v5_ x5 ho5 hg5 hw5 => ⟨((TT4.after b5_).wrote' ho5 hg5 hw5).below, ?_⟩))
                    simp only [Act.put, List.setIfInBounds_toArray, List.set_cons_zero, List.set_cons_succ]
                    have T5 := TT4.after b5_
                    have S5 := Z4.after b5_
                    have TT5 := T5.wrote' ho5 hg5 hw5
                    clear b5_ s5_ T5 ho5 hg5 hw5
                    refine wpU_val 10 hKS rfl (by kernel_rfl) (by kernel_rfl) (by kernel_rfl) rfl (fun _ _ _ _ h => h) v5_ (fun w' h => by simp [go_sem]) ?_
                    simp only [Act.put, List.setIfInBounds_toArray, List.set_cons_zero, List.set_cons_succ]
                    refine wpU_done (by kernel_rfl) ?_
                    intro z1 bz sz
                    have TZ := TT5.after bz
                    clear bz sz hKS HQ2 TT5
                    have TZH := Lib.hid TZ
                    clear TZ
                    have q3 : z1.cell? ⟨b, k + 3, none⟩ = some (.slice b2 m2 j2) := range_at HRG.out hbB TZH.out.below 3 rfl
                    go_wp2_with fail
                    refine (put_any v5_ (l ++ [91] ++ textL thi ++ [93]) b2 m2 j2 tda B z1 TZH.out.out TZH.out.size (HS2.out.keep (HIN2.out.imp id (fun h b o s e => TZH.out.below.block b (h b o s e)))) (HIN2.out.mono (fun b hb e => by have := (TZH.out.out.own b e).1; omega)) (HT.out.after (HB0.trans (TZH.out.below.mono (by have := HBD.out; omega)))) (by omega) (by simp only [List.length_append, List.length_cons, List.length_nil]; omega)).mono ?_
                    rintro e w12 ⟨v12, rfl, ho12, hb12, hw12⟩
                    have T12 := Lib.hid (TZH.out.wrote ho12 hb12 hw12)
                    clear ho12 hb12 hw12 q3
                    go_wp2_with fail
                    go_roundg (stW jts)
                    case measure => have := HWi.out; simp only [itW, Sx.nodes] at this; omega
                    case rel => exact ⟨_, jts, qs, T12.out, HI2.out, by have := HFi.out; simp only [itF] at this; rw [form_def, if_neg (by simp)] at this; rw [← this]; simp, rfl, by have := HWi.out; omega⟩
                  · simp only [Act.put, List.setIfInBounds_toArray, List.set_cons_zero, List.set_cons_succ]
                    have T3 := TT2.after b3_
                    have A3 : Below y3.heap.size y3 (y3.alloc (.cells #[.int .u8 93] 5)) := (Below.refl _ _).alloc (Nat.le_refl _) _
                    have TT3 := T3.after A3
                    have Z3 := sl_cell1 y3 93 93 rfl
                    have NE3 : ∀ k, v2_.ownBlock = some k → k ≠ y3.heap.size := fun k hk => by have := (T3.out.own k hk).2; omega
                    clear b3_ s3_ A3 T3
                    generalize y3.alloc (.cells #[.int .u8 93] 5) = x3 at *
                    generalize y3.heap.size = h3 at *
                    refine wpU_one 7 rfl (by kernel_rfl) rfl (fun y6 b6_ s6_ => wp_callR 26 #[v2_, .slice b1 m1 j1] (by simp [go_sem]) _ (put_any v2_ (l ++ [91]) b1 m1 j1 thi B y6 (TT3.after b6_).out (TT3.after b6_).size (HS1.out.keep (HIN1.out.imp id (fun h b o s e => (TT3.after b6_).below.block b (h b o s e)))) (HIN1.out.mono (fun b hb e => by have := ((TT3.after b6_).out.own b e).1; omega)) (HT.out.after (HB0.trans ((TT3.after b6_).below.mono (by have := HBD.out; omega)))) (by omega) (by simp only [List.length_append, List.length_cons, List.length_nil]; omega)) (fun e x6 h6_ => ?_))
                    obtain ⟨v6_, rfl, ho6, hb6, hw6⟩ := h6_
                    have T6 := TT3.after b6_
                    have S6 := Z3.after b6_
                    have TT6 := T6.wrote ho6 hb6 hw6
                    refine ⟨_, rfl, TT6.below, ?_⟩
                    simp only [Act.put, List.setIfInBounds_toArray, List.set_cons_zero, List.set_cons_succ]
                    have SS6 := S6.but hb6 (ok := fun k => k = h3) (.inr fun b o s e => by cases e; rfl) (fun k hk e => NE3 k e hk)
                    clear b6_ s6_ T6 ho6 hb6 hw6 S6
                    refine wpU_one 9 rfl (by kernel_rfl) rfl (fun y7 b7_ s7_ => wp_append_B3 _ _ rfl rfl (TT6.after b7_).out (l2 := [93]) rfl (SS6.after b7_) (by simp only [List.length_append, List.length_cons, List.length_nil]; omega) (TT6.after b7_).size (fun v7_ x7 ho7 hg7 hw7 => ⟨((TT6.after b7_).wrote' ho7 hg7 hw7).below, ?_⟩))
                    simp only [Act.put, List.setIfInBounds_toArray, List.set_cons_zero, List.set_cons_succ]
                    have T7 := TT6.after b7_
                    have S7 := SS6.after b7_
                    have TT7 := T7.wrote' ho7 hg7 hw7
                    clear b7_ s7_ T7 ho7 hg7 hw7
                    refine wpU_val 10 hKS rfl (by kernel_rfl) (by kernel_rfl) (by kernel_rfl) rfl (fun _ _ _ _ h => h) v7_ (fun w' h => by simp [go_sem]) ?_
                    simp only [Act.put, List.setIfInBounds_toArray, List.set_cons_zero, List.set_cons_succ]
                    refine wpU_done (by kernel_rfl) ?_
                    intro z1 bz sz
                    have TZ := TT7.after bz
                    clear bz sz hKS HQ2 TT7
                    have TZH := Lib.hid TZ
                    clear TZ
                    have q3 : z1.cell? ⟨b, k + 3, none⟩ = some (.slice b2 m2 j2) := range_at HRG.out hbB TZH.out.below 3 rfl
                    go_wp2_with fail
                    refine (put_any v7_ (l ++ [91] ++ textL thi ++ [93]) b2 m2 j2 tda B z1 TZH.out.out TZH.out.size (HS2.out.keep (HIN2.out.imp id (fun h b o s e => TZH.out.below.block b (h b o s e)))) (HIN2.out.mono (fun b hb e => by have := (TZH.out.out.own b e).1; omega)) (HT.out.after (HB0.trans (TZH.out.below.mono (by have := HBD.out; omega)))) (by omega) (by simp only [List.length_append, List.length_cons, List.length_nil]; omega)).mono ?_
                    rintro e w12 ⟨v12, rfl, ho12, hb12, hw12⟩
                    have T12 := Lib.hid (TZH.out.wrote ho12 hb12 hw12)
                    clear ho12 hb12 hw12 q3
                    go_wp2_with fail
                    go_roundg (stW jts)
                    case measure => have := HWi.out; simp only [itW, Sx.nodes] at this; omega
                    case rel => exact ⟨_, jts, qs, T12.out, HI2.out, by have := HFi.out; simp only [itF] at this; rw [form_def, if_neg (by simp)] at this; rw [← this]; simp, rfl, by have := HWi.out; omega⟩
                · simp only [Act.put, List.setIfInBounds_toArray, List.set_cons_zero, List.set_cons_succ]
                  have T2 := TT1.after b2_
                  have R2 := Z1.after b2_
                  have A2 : Below y2.heap.size y2 (y2.alloc (.cells #[.int .u8 93] 5)) := (Below.refl _ _).alloc (Nat.le_refl _) _
                  have TT2 := T2.after A2
                  have Z2 := sl_cell1 y2 93 93 rfl
                  have NE2 : ∀ k, u4.ownBlock = some k → k ≠ y2.heap.size := fun k hk => by have := (T2.out.own k hk).2; omega
                  have RR2 := R2.after A2
                  clear b2_ s2_ A2 T2 R2
                  generalize y2.alloc (.cells #[.int .u8 93] 5) = x2 at *
                  generalize y2.heap.size = h2 at *
                  refine wpU_one 2 rfl (by kernel_rfl) rfl (fun y8 b8_ s8_ => wp_append_B3 _ _ rfl rfl (TT2.after b8_).out (l2 := [91]) rfl (RR2.after b8_) (by omega) (TT2.after b8_).size (fun v8_ x8 ho8 hg8 hw8 => ⟨((TT2.after b8_).wrote' ho8 hg8 hw8).below, ?_⟩))
                  simp only [Act.put, List.setIfInBounds_toArray, List.set_cons_zero, List.set_cons_succ]
                  have T8 := TT2.after b8_
                  have S8 := Z2.after b8_
                  have R8 := RR2.after b8_
                  have TT8 := T8.wrote' ho8 hg8 hw8
                  have SS8 := S8.but (But.ofGrown (S := fun k => u4.ownBlock = some k) hg8 fun k hk => hk) (ok := fun k => k = h2) (.inr fun b o s e => by cases e; rfl) (fun k hk e => NE2 k e hk)
                  have LT8 : h2 < y8.heap.size := S8.inB.elim (fun h0 => by cases h0) (fun h0 => h0 _ _ _ rfl)
                  have NE8 : ∀ k, v8_.ownBlock = some k → k ≠ h2 := fun k hk => (hw8 k hk).elim (NE2 k) (fun e => by omega)
                  clear b8_ s8_ T8 ho8 hg8 hw8 R8 S8 LT8 NE2
                  refine wpU_one 7 rfl (by kernel_rfl) rfl (fun y9 b9_ s9_ => wp_callR 26 #[v8_, .slice b1 m1 j1] (by simp [go_sem]) _ (put_any v8_ (l ++ [91]) b1 m1 j1 thi B y9 (TT8.after b9_).out (TT8.after b9_).size (HS1.out.keep (HIN1.out.imp id (fun h b o s e => (TT8.after b9_).below.block b (h b o s e)))) (HIN1.out.mono (fun b hb e => by have := ((TT8.after b9_).out.own b e).1; omega)) (HT.out.after (HB0.trans ((TT8.after b9_).below.mono (by have := HBD.out; omega)))) (by omega) (by simp only [List.length_append, List.length_cons, List.length_nil]; omega)) (fun e x9 h9_ => ?_))
                  obtain ⟨v9_, rfl, ho9, hb9, hw9⟩ := h9_
                  have T9 := TT8.after b9_
                  have S9 := SS8.after b9_
                  have TT9 := T9.wrote ho9 hb9 hw9
                  refine ⟨_, rfl, TT9.below, ?_⟩
                  simp only [Act.put, List.setIfInBounds_toArray, List.set_cons_zero, List.set_cons_succ]
                  have SS9 := S9.but hb9 (ok := fun k => k = h2) (.inr fun b o s e => by cases e; rfl) (fun k hk e => NE8 k e hk)
                  clear b9_ s9_ T9 ho9 hb9 hw9 S9
                  refine wpU_one 9 rfl (by kernel_rfl) rfl (fun y10 b10_ s10_ => wp_append_B3 _ _ rfl rfl (TT9.after b10_).out (l2 := [93]) rfl (SS9.after b10_) (by simp only [List.length_append, List.length_cons, List.length_nil]; omega) (TT9.after b10_).size (fun v10_ x10 ho10 hg10 hw10 => ⟨((TT9.after b10_).wrote' ho10 hg10 hw10).below, ?_⟩))
                  simp only [Act.put, List.setIfInBounds_toArray, List.set_cons_zero, List.set_cons_succ]
                  have T10 := TT9.after b10_
                  have S10 := SS9.after b10_
                  have TT10 := T10.wrote' ho10 hg10 hw10
                  clear b10_ s10_ T10 ho10 hg10 hw10
                  refine wpU_val 10 hKS rfl (by kernel_rfl) (by kernel_rfl) (by kernel_rfl) rfl (fun _ _ _ _ h => h) v10_ (fun w' h => by simp [go_sem]) ?_
                  simp only [Act.put, List.setIfInBounds_toArray, List.set_cons_zero, List.set_cons_succ]
                  refine wpU_done (by kernel_rfl) ?_
                  intro z1 bz sz
                  have TZ := TT10.after bz
                  clear bz sz hKS HQ2 TT10
                  have TZH := Lib.hid TZ
                  clear TZ
                  have q3 : z1.cell? ⟨b, k + 3, none⟩ = some (.slice b2 m2 j2) := range_at HRG.out hbB TZH.out.below 3 rfl
                  go_wp2_with fail
                  refine (put_any v10_ (l ++ [91] ++ textL thi ++ [93]) b2 m2 j2 tda B z1 TZH.out.out TZH.out.size (HS2.out.keep (HIN2.out.imp id (fun h b o s e => TZH.out.below.block b (h b o s e)))) (HIN2.out.mono (fun b hb e => by have := (TZH.out.out.own b e).1; omega)) (HT.out.after (HB0.trans (TZH.out.below.mono (by have := HBD.out; omega)))) (by omega) (by simp only [List.length_append, List.length_cons, List.length_nil]; omega)).mono ?_
                  rintro e w12 ⟨v12, rfl, ho12, hb12, hw12⟩
                  have T12 := Lib.hid (TZH.out.wrote ho12 hb12 hw12)
                  clear ho12 hb12 hw12 q3
                  go_wp2_with fail
                  go_roundg (stW jts)
                  case measure => have := HWi.out; simp only [itW, Sx.nodes] at this; omega
                  case rel => exact ⟨_, jts, qs, T12.out, HI2.out, by have := HFi.out; simp only [itF] at this; rw [form_def, if_neg (by simp)] at this; rw [← this]; simp, rfl, by have := HWi.out; omega⟩
              · simp only [Act.put, List.setIfInBounds_toArray, List.set_cons_zero, List.set_cons_succ]
                have T1 := T0.after b1_
                have A1 : Below y1.heap.size y1 (y1.alloc (.cells #[.int .u8 93] 5)) := (Below.refl _ _).alloc (Nat.le_refl _) _
                have TT1 := T1.after A1
                have Z1 := sl_cell1 y1 93 93 rfl
                have NE1 : ∀ k, u4.ownBlock = some k → k ≠ y1.heap.size := fun k hk => by have := (T1.out.own k hk).2; omega
                clear b1_ s1_ A1 T1
                generalize y1.alloc (.cells #[.int .u8 93] 5) = x1 at *
                generalize y1.heap.size = h1 at *
                refine wpU_one 1 rfl (by kernel_rfl) rfl (fun y11 b11_ s11_ => wp_of_run (.slice (some ⟨y11.heap.size, 0, none⟩) 1 1) (y11.alloc (.cells #[.int .u8 91] 5)) (by simp [go_sem]) ⟨hKS _ _ s11_ ((Below.refl _ _).alloc (Nat.le_refl _) _), ?_⟩)
                simp only [Act.put, List.setIfInBounds_toArray, List.set_cons_zero, List.set_cons_succ]
                have T11 := TT1.after b11_
                have S11 := Z1.after b11_
                have A11 : Below y11.heap.size y11 (y11.alloc (.cells #[.int .u8 91] 5)) := (Below.refl _ _).alloc (Nat.le_refl _) _
                have TT11 := T11.after A11
                have Z11 := sl_cell1 y11 91 91 rfl
                have SS11 := S11.after A11
                clear b11_ s11_ A11 T11 S11
                generalize y11.alloc (.cells #[.int .u8 91] 5) = x11 at *
                generalize y11.heap.size = h11 at *
                refine wpU_one 2 rfl (by kernel_rfl) rfl (fun y12 b12_ s12_ => wp_append_B3 _ _ rfl rfl (TT11.after b12_).out (l2 := [91]) rfl (Z11.after b12_) (by omega) (TT11.after b12_).size (fun v12_ x12 ho12 hg12 hw12 => ⟨((TT11.after b12_).wrote' ho12 hg12 hw12).below, ?_⟩))
                simp only [Act.put, List.setIfInBounds_toArray, List.set_cons_zero, List.set_cons_succ]
                have T12 := TT11.after b12_
                have S12 := SS11.after b12_
                have R12 := Z11.after b12_
                have TT12 := T12.wrote' ho12 hg12 hw12
                have SS12 := S12.but (But.ofGrown (S := fun k => u4.ownBlock = some k) hg12 fun k hk => hk) (ok := fun k => k = h1) (.inr fun b o s e => by cases e; rfl) (fun k hk e => NE1 k e hk)
                have LT12 : h1 < y12.heap.size := S12.inB.elim (fun h0 => by cases h0) (fun h0 => h0 _ _ _ rfl)
                have NE12 : ∀ k, v12_.ownBlock = some k → k ≠ h1 := fun k hk => (hw12 k hk).elim (NE1 k) (fun e => by omega)
                clear b12_ s12_ T12 ho12 hg12 hw12 R12 S12 LT12 NE1
                refine wpU_one 7 rfl (by kernel_rfl) rfl (fun y13 b13_ s13_ => wp_callR 26 #[v12_, .slice b1 m1 j1] (by simp [go_sem]) _ (put_any v12_ (l ++ [91]) b1 m1 j1 thi B y13 (TT12.after b13_).out (TT12.after b13_).size (HS1.out.keep (HIN1.out.imp id (fun h b o s e => (TT12.after b13_).below.block b (h b o s e)))) (HIN1.out.mono (fun b hb e => by have := ((TT12.after b13_).out.own b e).1; omega)) (HT.out.after (HB0.trans ((TT12.after b13_).below.mono (by have := HBD.out; omega)))) (by omega) (by simp only [List.length_append, List.length_cons, List.length_nil]; omega)) (fun e x13 h13_ => ?_))
                obtain ⟨v13_, rfl, ho13, hb13, hw13⟩ := h13_
                have T13 := TT12.after b13_
                have S13 := SS12.after b13_
                have TT13 := T13.wrote ho13 hb13 hw13
                refine ⟨_, rfl, TT13.below, ?_⟩
                simp only [Act.put, List.setIfInBounds_toArray, List.set_cons_zero, List.set_cons_succ]
                have SS13 := S13.but hb13 (ok := fun k => k = h1) (.inr fun b o s e => by cases e; rfl) (fun k hk e => NE12 k e hk)
                clear b13_ s13_ T13 ho13 hb13 hw13 S13
                refine wpU_one 9 rfl (by kernel_rfl) rfl (fun y14 b14_ s14_ => wp_append_B3 _ _ rfl rfl (TT13.after b14_).out (l2 := [93]) rfl (SS13.after b14_) (by simp only [List.length_append, List.length_cons, List.length_nil]; omega) (TT13.after b14_).size (fun v14_ x14 ho14 hg14 hw14 => ⟨((TT13.after b14_).wrote' ho14 hg14 hw14).below, ?_⟩))
                simp only [Act.put, List.setIfInBounds_toArray, List.set_cons_zero, List.set_cons_succ]
                have T14 := TT13.after b14_
                have S14 := SS13.after b14_
                have TT14 := T14.wrote' ho14 hg14 hw14
                clear b14_ s14_ T14 ho14 hg14 hw14
                refine wpU_val 10 hKS rfl (by kernel_rfl) (by kernel_rfl) (by kernel_rfl) rfl (fun _ _ _ _ h => h) v14_ (fun w' h => by simp [go_sem]) ?_
                simp only [Act.put, List.setIfInBounds_toArray, List.set_cons_zero, List.set_cons_succ]
                refine wpU_done (by kernel_rfl) ?_
                intro z1 bz sz
                have TZ := TT14.after bz
                clear bz sz hKS HQ2 TT14
                have TZH := Lib.hid TZ
                clear TZ
                have q3 : z1.cell? ⟨b, k + 3, none⟩ = some (.slice b2 m2 j2) := range_at HRG.out hbB TZH.out.below 3 rfl
                go_wp2_with fail
                refine (put_any v14_ (l ++ [91] ++ textL thi ++ [93]) b2 m2 j2 tda B z1 TZH.out.out TZH.out.size (HS2.out.keep (HIN2.out.imp id (fun h b o s e => TZH.out.below.block b (h b o s e)))) (HIN2.out.mono (fun b hb e => by have := (TZH.out.out.own b e).1; omega)) (HT.out.after (HB0.trans (TZH.out.below.mono (by have := HBD.out; omega)))) (by omega) (by simp only [List.length_append, List.length_cons, List.length_nil]; omega)).mono ?_
                rintro e w12 ⟨v12, rfl, ho12, hb12, hw12⟩
                have T12 := Lib.hid (TZH.out.wrote ho12 hb12 hw12)
                clear ho12 hb12 hw12 q3
                go_wp2_with fail
                go_roundg (stW jts)
                case measure => have := HWi.out; simp only [itW, Sx.nodes] at this; omega
                case rel => exact ⟨_, jts, qs, T12.out, HI2.out, by have := HFi.out; simp only [itF] at this; rw [form_def, if_neg (by simp)] at this; rw [← this]; simp, rfl, by have := HWi.out; omega⟩

end Go.Proofs.YtcflgoddfakepaaDoor

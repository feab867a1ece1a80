/- The program's reads, of advanced forms and of others; Read. -/
import Derived.Test.YtkbblhioncecmaaDoorNtI
import Derived.Test.YtkbblhioncecmaaDoorNtJ
namespace Go.Proofs.YtkbblhioncecmaaDoor
open Go.RowKit
set_option linter.unusedSimpArgs false
set_option linter.unusedVariables false

def EndN (g : Nat) (s : ByteArray) (p : Nat) (w : World) (e : Ending) (w' : World) : Prop :=
  But (fun k => k = g) w w' ∧ ((skipN s.data.toList p < s.size ∧ e = FaultN (skipN s.data.toList p) 5) ∨ (s.size ≤ skipN s.data.toList p ∧ e = .returned (.tuple #[])))
set_option maxHeartbeats 4000000 in
set_option maxRecDepth 100000 in
theorem endedN_any (g : Nat) (s : ByteArray) (p m : Nat) (w : World) (hX : Box w g 72 (RdN s p m)) (hs : s.size ≤ 100000) (hp : p ≤ s.size) : Calls Tryd.prog 42 #[.pointer (some ⟨g, 0, none⟩)] w (EndN g s p w) := by
  have HX := Lib.hid hX
  clear hX
  go_enter Tryd.func42, Tryd.ntmps42
  go_wp2_with fail
  refine (skipN_any g s p m w HX.out (by omega) hp).mono ?_
  rintro e w1 ⟨rfl, X1, b1⟩
  obtain ⟨q, hq⟩ : ∃ q, q = skipN s.data.toList p := ⟨_, rfl⟩
  rw [← hq] at X1
  have HQ := Lib.hid hq
  have HB := Lib.hid b1
  have HX1 := Lib.hid X1
  have x0 := X1.cell 0 rfl
  have x1 := X1.cell 1 rfl
  clear hq b1 X1 HX
  by_cases h : q < s.size
  · have h' : (q : Int) < (s.size : Int) := by omega
    go_wp2_with fail
    go_quiet (fail)
    go_wp2_with fail
    refine (wrong_any q 5 _).mono ?_
    rintro e w2 ⟨rfl, rfl⟩
    unfold FaultN
    go_wp2_with fail
    exact ⟨rfl, HB.out.drewN _, .inl ⟨by rw [← HQ.out]; exact h, by rw [← HQ.out]; rfl⟩⟩
  · have h' : ¬ (q : Int) < (s.size : Int) := by omega
    go_wp2_with fail
    go_quiet (fail)
    go_wp2_with fail
    exact bodyPost_ret (results_none rfl _ _ _) rfl ⟨HB.out.drewN _, .inr ⟨by rw [← HQ.out]; omega, rfl⟩⟩


set_option maxHeartbeats 4000000 in
set_option maxRecDepth 100000 in
theorem rd1_idle (V A E : Nat) (w : World) :
    CallsD Tryd.prog 40 #[.pointer (some ⟨V, 0, none⟩), .pointer (some ⟨A, 0, none⟩), .pointer (some ⟨E, 0, none⟩)] .returning w fun e u' w' => e = .returned (.tuple #[]) ∧ u' = .returning ∧ w' = w := by
  refine callsD_of_wpS Tryd.func40 rfl fun c₀ cs hu => ?_
  apply wpS_seq
  apply wpS_region
  simp [wpOpsS, go_sem, recoverD, hu, Tryd.ntmps40, Exit.thenS]
  refine wpS_of_wp ?_
  go_wp2_with fail
  cases c₀
  simp_all [bodyPostS, results, Tryd.results40]

set_option maxHeartbeats 4000000 in
set_option maxRecDepth 100000 in
theorem rd1_fault (V A E p x : Nat) (older : List PanicEntry) (w : World) (vc : Array Value) (hV : Box w V 26 vc) (hvc : vc.size = 5) (z1 z2 : Int) (hA : Box w A 3 #[.int .i64 z1]) (hE : Box w E 27 #[.int .i64 z2]) (hVA : V ≠ A) (hVE : V ≠ E) (hAE : A ≠ E) :
    CallsD Tryd.prog 40 #[.pointer (some ⟨V, 0, none⟩), .pointer (some ⟨A, 0, none⟩), .pointer (some ⟨E, 0, none⟩)] (.panicking ({ v := .iface 69 (.agg #[.int .i64 p, .int .i64 x]), recovered := false } :: older)) w fun e u' w' =>
      e = .returned (.tuple #[]) ∧ u' = .panicking ({ v := .iface 69 (.agg #[.int .i64 p, .int .i64 x]), recovered := true } :: older) ∧ Box w' V 26 #[.bool false, .bool false, .slice none 0 0, .slice none 0 0, .slice none 0 0] ∧ Box w' A 3 #[.int .i64 p] ∧ Box w' E 27 #[.int .i64 x] ∧ But (fun k => k = V ∨ k = A ∨ k = E) w w' := by
  refine callsD_of_wpS Tryd.func40 rfl fun c₀ cs hu => ?_
  have HV := Lib.hid hV
  have HA := Lib.hid hA
  have HE := Lib.hid hE
  have hta : ∀ w, (Instr.typeAssert (.iface 69 (.agg #[.int .i64 p, .int .i64 x])) 20 69 true).run Tryd.prog w = .ok (.tuple #[.agg #[.int .i64 p, .int .i64 x], .bool true]) w := fun _ => by kernel_rfl
  apply wpS_seq
  apply wpS_region
  simp [wpOpsS, go_sem, recoverD, hu, Tryd.ntmps40, Exit.thenS]
  refine wpS_of_wp ?_
  have hVw := hV.lt
  have hAw := hA.lt
  have hEw := hE.lt
  have Y0 := Box.new w 69 #[.int .i64 0, .int .i64 0]
  clear hV hA hE
  change Code.wp _ _ _ { tmps := #[.pointer (some ⟨V, 0, none⟩), .pointer (some ⟨A, 0, none⟩), .pointer (some ⟨E, 0, none⟩), undef, undef, undef, .iface 69 (.agg #[.int .i64 p, .int .i64 x]), undef, undef, undef, undef, undef, undef, undef, undef, undef, undef], defers := [] } w
  go_upto_region 6 with fail
  go_upto_region 7 with (refine wpList_store_box (cells := #[.int .i64 p, .int .i64 x]) rfl 69 _ _ rfl Y0 (by rfl) (by rfl) rfl (by kernel_rfl) (by simp [Value.oneCell']) ?_; intro u9 X9 st9)
  have HB1 : Hid (But (fun _ => False) w u9) := Lib.hid (But.ofBelow (st9.below w.heap.size w (Nat.le_refl _) ((Below.refl _ _).alloc (Nat.le_refl _) _)))
  have HV1 := Lib.hid (HB1.out.box HV.out (fun h => h))
  have HA1 := Lib.hid (HB1.out.box HA.out (fun h => h))
  have HE1 := Lib.hid (HB1.out.box HE.out (fun h => h))
  replace HV := HV1
  replace HA := HA1
  replace HE := HE1
  clear st9 Y0 HV1 HA1 HE1
  obtain ⟨F, hF⟩ : ∃ F, F = w.heap.size := ⟨_, rfl⟩
  have hVF : V ≠ F := by omega
  have hAF : A ≠ F := by omega
  have hEF : E ≠ F := by omega
  have YF := X9
  rw [← hF] at YF ⊢
  clear X9
  have hKS : Keeps (fun w' => Box w' F 69 #[.int .i64 p, .int .i64 x]) := fun w w' h b => h.after b
  refine wp_region_U (w := u9) (fun w' => Box w' F 69 #[.int .i64 p, .int .i64 x]) rfl YF.drew ?_
  refine wpU_val 0 hKS rfl (by kernel_rfl) (by kernel_rfl) (by kernel_rfl) rfl (fun _ _ _ _ h => h) (.agg #[.bool false, .bool false, .slice none 0 0, .slice none 0 0, .slice none 0 0]) (fun w' h => by simp [go_sem]) ?_
  simp only [Act.put, List.setIfInBounds_toArray, List.set_cons_zero, List.set_cons_succ]
  refine wpU_val 1 hKS rfl (by kernel_rfl) (by kernel_rfl) (by kernel_rfl) rfl (fun _ _ _ _ h => h) (.pointer (some ⟨F, 0, none⟩)) (fun w' h => by simp [go_sem]) ?_
  simp only [Act.put, List.setIfInBounds_toArray, List.set_cons_zero, List.set_cons_succ]
  refine wpU_val 2 hKS rfl (by kernel_rfl) (by kernel_rfl) (by kernel_rfl) rfl (fun _ _ _ _ h => h) (.int .i64 p) (fun w' h => by simp [go_sem, h.cell 0 rfl]) ?_
  simp only [Act.put, List.setIfInBounds_toArray, List.set_cons_zero, List.set_cons_succ]
  refine wpU_val 3 hKS rfl (by kernel_rfl) (by kernel_rfl) (by kernel_rfl) rfl (fun _ _ _ _ h => h) (.pointer (some ⟨F, 1, none⟩)) (fun w' h => by simp [go_sem]) ?_
  simp only [Act.put, List.setIfInBounds_toArray, List.set_cons_zero, List.set_cons_succ]
  refine wpU_val 4 hKS rfl (by kernel_rfl) (by kernel_rfl) (by kernel_rfl) rfl (fun _ _ _ _ h => h) (.int .i64 x) (fun w' h => by simp [go_sem, h.cell 1 rfl]) ?_
  simp only [Act.put, List.setIfInBounds_toArray, List.set_cons_zero, List.set_cons_succ]
  refine wpU_store_box (cells := #[.bool false, .bool false, .slice none 0 0, .slice none 0 0, .slice none 0 0]) 5 rfl (by kernel_rfl) rfl 26 _ _ rfl HV.out.drew (by rfl) (by rfl) (by simpa using hvc) (by kernel_rfl) (by simp [Value.oneCell']) ?_
  intro w2 w3 b2 s2 V3 st3
  have b23 : But (fun k => k = V) w2 w3 := But.ofStored st3 (st3.below 0 w2 (Nat.zero_le _) (Below.refl _ _))
  refine ⟨b23.box s2 hVF.symm, ?_⟩
  simp only [Act.put, List.setIfInBounds_toArray, List.set_cons_zero, List.set_cons_succ]
  have A3 := b23.box (HA.out.drew.after b2) hVA.symm
  have E3 := b23.box (HE.out.drew.after b2) hVE.symm
  refine wpU_store_cell 6 rfl (by kernel_rfl) rfl 3 _ _ rfl A3 0 (k := .i64) (n := (p : Int)) rfl rfl (show 0 < 1 by decide) (fun w => by simp [go_sem]) ?_
  intro w4 w5 b4 s4 A5 st5
  have b45 : But (fun k => k = A) w4 w5 := But.ofStored st5 (st5.below 0 w4 (Nat.zero_le _) (Below.refl _ _))
  refine ⟨b45.box s4 hAF.symm, ?_⟩
  simp only [Act.put, List.setIfInBounds_toArray, List.set_cons_zero, List.set_cons_succ]
  have E5 := b45.box (E3.after b4) hAE.symm
  have V5 := b45.box (V3.after b4) hVA
  refine wpU_store_cell 7 rfl (by kernel_rfl) rfl 27 _ _ rfl E5 0 (k := .i64) (n := (x : Int)) rfl rfl (show 0 < 1 by decide) (fun w => by simp [go_sem]) ?_
  intro w6 w7 b6 s6 E7 st7
  have b67 : But (fun k => k = E) w6 w7 := But.ofStored st7 (st7.below 0 w6 (Nat.zero_le _) (Below.refl _ _))
  refine ⟨b67.box s6 hEF.symm, ?_⟩
  simp only [Act.put, List.setIfInBounds_toArray, List.set_cons_zero, List.set_cons_succ]
  have A7 := b67.box (A5.after b6) hAE
  have V7 := b67.box (V5.after b6) hVE
  refine wpU_done (by kernel_rfl) ?_
  intro w8 b8 s8
  have V8 := V7.after b8
  have A8 : Box w8 A 3 #[.int .i64 p] := A7.after b8
  have E8 : Box w8 E 27 #[.int .i64 x] := E7.after b8
  have ev : ∀ u v : World, Below u.heap.size u v → But (fun _ => False) u v := fun u v h => But.ofBelow h
  have B8 : But (fun k => k = V ∨ k = A ∨ k = E) w w8 := ((((((HB1.out.mono (fun k hk => hk.elim)).trans (ev _ _ ((Below.refl _ _).drew.trans b2)) (fun k hk => hk.elim)).trans b23 (fun k hk => .inl (.inl hk))).trans (ev _ _ b4) (fun k hk => hk.elim)).trans b45 (fun k hk => .inl (.inr (.inl hk)))).trans (ev _ _ b6) (fun k hk => hk.elim)).trans (b67.trans (ev _ _ b8) (fun k hk => hk.elim)) (fun k hk => .inl (.inr (.inr hk)))
  clear hKS s2 s4 s6 s8 A3 E3 A5 E5 V3 V5 V7 A7 E7 b2 b4 b6 b8 b23 b45 b67 ev st3 st5 st7 HV HA HE YF
  go_wp2_with fail
  cases c₀
  simp_all [bodyPostS, results, Tryd.results40]

/-- what reads answers: a value, a place, an error -/
def GotN (Rel : RV → Prop) (l : List UInt8) (sx : Sx) (p e : Nat) : Prop :=
  (16384 < l.length ∧ sx = Sx.nil ∧ p = 16384 ∧ e = 4) ∨ (l.length ≤ 16384 ∧ ∃ r, Rel r ∧ ((r.e ≠ 0 ∧ sx = Sx.nil ∧ p = r.p ∧ e = r.e) ∨ (r.e = 0 ∧ skipN l r.p < l.length ∧ sx = Sx.nil ∧ p = skipN l r.p ∧ e = 5) ∨
    (r.e = 0 ∧ l.length ≤ skipN l r.p ∧ r.v.may = false ∧ sx = Sx.nil ∧ p = l.length ∧ e = 4) ∨ (r.e = 0 ∧ l.length ≤ skipN l r.p ∧ r.v.may = true ∧ sx = r.v ∧ p = 0 ∧ e = 0)))
def ReadP (Rel : RV → Prop) (l : List UInt8) (w : World) (e : Ending) (w' : World) : Prop :=
  ∃ (v : SV) (s : Sx) (p x : Nat), GotN Rel l s p x ∧ e = .returned (.tuple #[.agg #[.bool v.l, .bool v.h, .slice v.a1 v.n1 v.c1, .slice v.a2 v.n2 v.c2, .slice v.a3 v.n3 v.c3], .int .i64 p, .int .i64 x]) ∧ RdI (fun k => w.heap.size ≤ k) w' v s ∧ Below w.heap.size w w'
/-- a reading function: what it is told, and what it may yield -/
structure Reads (F : FuncId) (Rel : RV → Prop) (s : ByteArray) : Prop where
  enter : ∀ (args : Array Value) (w : World), (callFunc F args).run Tryd.prog w = .ok (.enter F args) w
  run : ∀ (g : Nat) (w : World), Box w g 72 (RdN s 0 0) → Tab w → Calls Tryd.prog F #[.pointer (some ⟨g, 0, none⟩)] w (ValN Rel g s w)
  ok : ∀ r, Rel r → r.e = 0 → r.p ≤ s.size ∧ ∃ m, r.v.broad m = false

set_option maxHeartbeats 16000000 in
set_option maxRecDepth 100000 in
theorem reads_any (F : FuncId) (Rel : RV → Prop) (s : ByteArray) (hF : s.size ≤ 16384 → Reads F Rel s) (w : World) (ht : Tab w) :
    Calls Tryd.prog 21 #[.string s, .func (.func F) #[] #[]] w (ReadP Rel s.data.toList w) := by
  have HL : Hid (s.data.toList.length = s.size) := Lib.hid (by simp)
  have HF := Lib.hid hF
  have HT := Lib.hid ht
  have hmf : ∀ (fn : Fn) (first cap : Array Value) (w : World), (Instr.makeFunc fn first cap).run Tryd.prog w = .ok (.func fn first cap) w := fun _ _ _ _ => rfl
  have B : Below w.heap.size w (((w.alloc (.cells #[.bool false, .bool false, .slice none 0 0, .slice none 0 0, .slice none 0 0] 26)).alloc (.cells #[.int .i64 0] 3)).alloc (.cells #[.int .i64 0] 27)) := (((Below.refl _ _).alloc (Nat.le_refl _) _).alloc (by simp) _).alloc (by simp; omega) _
  have V : Hid (Box (((w.alloc (.cells #[.bool false, .bool false, .slice none 0 0, .slice none 0 0, .slice none 0 0] 26)).alloc (.cells #[.int .i64 0] 3)).alloc (.cells #[.int .i64 0] 27)) w.heap.size 26 #[.bool false, .bool false, .slice none 0 0, .slice none 0 0, .slice none 0 0]) := Lib.hid (((Box.new _ _ _).alloc _).alloc _)
  have A : Hid (Box (((w.alloc (.cells #[.bool false, .bool false, .slice none 0 0, .slice none 0 0, .slice none 0 0] 26)).alloc (.cells #[.int .i64 0] 3)).alloc (.cells #[.int .i64 0] 27)) (w.heap.size + 1) 3 #[.int .i64 0]) := Lib.hid (by
    have := (Box.new (w.alloc (.cells #[.bool false, .bool false, .slice none 0 0, .slice none 0 0, .slice none 0 0] 26)) 3 #[.int .i64 0]).alloc (.cells #[.int .i64 0] 27)
    simpa using this)
  have E : Hid (Box (((w.alloc (.cells #[.bool false, .bool false, .slice none 0 0, .slice none 0 0, .slice none 0 0] 26)).alloc (.cells #[.int .i64 0] 3)).alloc (.cells #[.int .i64 0] 27)) (w.heap.size + 1 + 1) 27 #[.int .i64 0]) := Lib.hid (by
    have := Box.new ((w.alloc (.cells #[.bool false, .bool false, .slice none 0 0, .slice none 0 0, .slice none 0 0] 26)).alloc (.cells #[.int .i64 0] 3)) 27 #[.int .i64 0]
    simpa using this)
  have hz : ((((w.alloc (.cells #[.bool false, .bool false, .slice none 0 0, .slice none 0 0, .slice none 0 0] 26)).alloc (.cells #[.int .i64 0] 3)).alloc (.cells #[.int .i64 0] 27))).heap.size = w.heap.size + 3 := by simp
  have HZ := Lib.hid hz
  clear hF ht hz
  by_cases hlong : 16384 < s.size
  · have hlong' : (16384 : Int) < (s.size : Int) := by omega
    go_enter_defers Tryd.func21, Tryd.ntmps21
    go_upto_region 1 with fail
    change Code.wp _ _ _ _ (((w.alloc (.cells #[.bool false, .bool false, .slice none 0 0, .slice none 0 0, .slice none 0 0] 26)).alloc (.cells #[.int .i64 0] 3)).alloc (.cells #[.int .i64 0] 27))
    generalize (((w.alloc (.cells #[.bool false, .bool false, .slice none 0 0, .slice none 0 0, .slice none 0 0] 26)).alloc (.cells #[.int .i64 0] 3)).alloc (.cells #[.int .i64 0] 27)) = u0 at *
    go_wp2_with fail
    refine (wrong_any 16384 4 u0).mono ?_
    rintro e z1 ⟨rfl, rfl⟩
    unfold FaultN
    refine leaves_cons (f := 40) (args := #[.pointer (some ⟨w.heap.size, 0, none⟩), .pointer (some ⟨w.heap.size + 1, 0, none⟩), .pointer (some ⟨w.heap.size + 1 + 1, 0, none⟩)]) (by simp) (by simp [go_sem]) ?_
    refine (rd1_fault w.heap.size (w.heap.size + 1) (w.heap.size + 1 + 1) 16384 4 [] z1 _ V.out rfl 0 0 A.out E.out (by omega) (by omega) (by omega)).mono ?_
    rintro e u' z2 ⟨rfl, rfl, V9, A9, E9, b2⟩
    have b9 : Below w.heap.size w z2 := b2.after B (B).size (fun k hk => by omega)
    have cc0 : z2.cell? ⟨w.heap.size, 0, none⟩ = some (.bool false) := V9.cell 0 rfl
    have cc1 : z2.cell? ⟨w.heap.size, 1, none⟩ = some (.bool false) := V9.cell 1 rfl
    have cc2 : z2.cell? ⟨w.heap.size, 2, none⟩ = some (.slice none 0 0) := V9.cell 2 rfl
    have cc3 : z2.cell? ⟨w.heap.size, 3, none⟩ = some (.slice none 0 0) := V9.cell 3 rfl
    have cc4 : z2.cell? ⟨w.heap.size, 4, none⟩ = some (.slice none 0 0) := V9.cell 4 rfl
    have ca : z2.cell? ⟨w.heap.size + 1, 0, none⟩ = some (.int .i64 16384) := A9.cell 0 rfl
    have ce : z2.cell? ⟨w.heap.size + 1 + 1, 0, none⟩ = some (.int .i64 4) := E9.cell 0 rfl
    simp [Leaves, settle, results, Tryd.results21, go_sem, cc0, cc1, cc2, cc3, cc4, ca, ce]
    exact ⟨SV.nil, Sx.nil, 16384, 4, .inl ⟨by rw [HL.out]; exact hlong, rfl, rfl, rfl⟩, rfl, rd_nil _ _, b9⟩
  have hlong' : ¬ (16384 : Int) < (s.size : Int) := by omega
  replace HF := Lib.hid (HF.out (by omega))
  go_enter_defers Tryd.func21, Tryd.ntmps21
  go_upto_region 1 with fail
  change Code.wp _ _ _ _ (((w.alloc (.cells #[.bool false, .bool false, .slice none 0 0, .slice none 0 0, .slice none 0 0] 26)).alloc (.cells #[.int .i64 0] 3)).alloc (.cells #[.int .i64 0] 27))
  generalize (((w.alloc (.cells #[.bool false, .bool false, .slice none 0 0, .slice none 0 0, .slice none 0 0] 26)).alloc (.cells #[.int .i64 0] 3)).alloc (.cells #[.int .i64 0] 27)) = u0 at *
  go_upto_region 5 with fail
  have X : Hid (Box (u0.alloc (.cells #[.string s, .int .i64 0, .int .i64 0] 72)) u0.heap.size 72 (RdN s 0 0)) := Lib.hid (Box.new _ _ _)
  have ba : Below u0.heap.size u0 (u0.alloc (.cells #[.string s, .int .i64 0, .int .i64 0] 72)) := (Below.refl _ _).alloc (Nat.le_refl _) _
  replace V := Lib.hid (V.out.after ba)
  replace A := Lib.hid (A.out.after ba)
  replace E := Lib.hid (E.out.after ba)
  replace B := B.trans (ba.mono B.size)
  have hgz : w.heap.size + 3 ≤ u0.heap.size := by have := HZ.out; omega
  have hg1 := X.out.lt
  clear ba
  change Code.wp _ _ _ _ (u0.alloc (.cells #[.string s, .int .i64 0, .int .i64 0] 72))
  generalize (u0.alloc (.cells #[.string s, .int .i64 0, .int .i64 0] 72)) = u1 at *
  clear HZ
  generalize u0.heap.size = g at *
  go_wp2_with fail
  rw [HF.out.enter]
  refine (HF.out.run g u1 X.out (HT.out.after B)).mono ?_
  rintro e w1 ⟨b1, r, hr, ⟨h1, rfl⟩ | ⟨h1, v, rfl, rd, X1⟩⟩
  · have HR := Lib.hid hr
    have H1 := Lib.hid h1
    have V1 := b1.box V.out (by omega)
    have A1 := b1.box A.out (by omega)
    have E1 := b1.box E.out (by omega)
    have B1 : Below w.heap.size w w1 := b1.after B B.size (fun k hk => by omega)
    clear hr h1 b1
    unfold FaultN
    refine leaves_cons (f := 40) (args := #[.pointer (some ⟨w.heap.size, 0, none⟩), .pointer (some ⟨w.heap.size + 1, 0, none⟩), .pointer (some ⟨w.heap.size + 1 + 1, 0, none⟩)]) (by simp) (by simp [go_sem]) ?_
    refine (rd1_fault w.heap.size (w.heap.size + 1) (w.heap.size + 1 + 1) r.p r.e [] w1 _ V1 rfl 0 0 A1 E1 (by omega) (by omega) (by omega)).mono ?_
    rintro e u' z2 ⟨rfl, rfl, V9, A9, E9, b2⟩
    have b9 : Below w.heap.size w z2 := b2.after B1 (B1).size (fun k hk => by omega)
    have cc0 : z2.cell? ⟨w.heap.size, 0, none⟩ = some (.bool false) := V9.cell 0 rfl
    have cc1 : z2.cell? ⟨w.heap.size, 1, none⟩ = some (.bool false) := V9.cell 1 rfl
    have cc2 : z2.cell? ⟨w.heap.size, 2, none⟩ = some (.slice none 0 0) := V9.cell 2 rfl
    have cc3 : z2.cell? ⟨w.heap.size, 3, none⟩ = some (.slice none 0 0) := V9.cell 3 rfl
    have cc4 : z2.cell? ⟨w.heap.size, 4, none⟩ = some (.slice none 0 0) := V9.cell 4 rfl
    have ca : z2.cell? ⟨w.heap.size + 1, 0, none⟩ = some (.int .i64 r.p) := A9.cell 0 rfl
    have ce : z2.cell? ⟨w.heap.size + 1 + 1, 0, none⟩ = some (.int .i64 r.e) := E9.cell 0 rfl
    simp [Leaves, settle, results, Tryd.results21, go_sem, cc0, cc1, cc2, cc3, cc4, ca, ce]
    exact ⟨SV.nil, Sx.nil, r.p, r.e, .inr ⟨by rw [HL.out]; omega, r, HR.out, .inl ⟨H1.out, rfl, rfl, rfl⟩⟩, rfl, rd_nil _ _, b9⟩
  obtain ⟨vl, vh, a1, n1, c1, a2, n2, c2, a3, n3, c3⟩ := v
  unfold SV.val
  obtain ⟨hrp, mm, hbr⟩ := HF.out.ok r hr h1
  have HR := Lib.hid hr
  have H1 := Lib.hid h1
  have HBR := Lib.hid hbr
  replace V := Lib.hid (b1.box V.out (by omega))
  replace A := Lib.hid (b1.box A.out (by omega))
  replace E := Lib.hid (b1.box E.out (by omega))
  have B1 : Below w.heap.size w w1 := b1.after B B.size (fun k hk => by omega)
  have RD := Lib.hid rd
  have X1' := Lib.hid X1
  have hz1 := b1.size
  clear hr h1 b1 X B rd hbr X1
  go_upto_region 6 with (refine wpList_store_box (cells := #[.bool vl, .bool vh, .slice a1 n1 c1, .slice a2 n2 c2, .slice a3 n3 c3]) rfl 26 _ _ rfl V.out (by rfl) (by rfl) rfl (by kernel_rfl) (by simp [Value.oneCell']) ?_; intro u5 V5 st5)
  have b5 : But (fun k => k = w.heap.size) w1 u5 := But.ofStored st5 (st5.below 0 w1 (Nat.zero_le _) (Below.refl _ _))
  replace A := Lib.hid (b5.box A.out (by omega))
  replace E := Lib.hid (b5.box E.out (by omega))
  have X5 := Lib.hid (b5.box X1'.out (by omega))
  have RD5 := Lib.hid (RD.out.but b5 (fun k hk => by omega))
  have B5 : Below w.heap.size w u5 := b5.after B1 B1.size (fun k hk => by omega)
  have V5' := Lib.hid V5
  have hz5 := b5.size
  clear b5 st5 V V5 X1' B1 RD
  go_wp2_with fail
  refine (endedN_any g s r.p r.n u5 X5.out (by omega) hrp).mono ?_
  rintro e w6 ⟨b6, ⟨h6, rfl⟩ | ⟨h6, rfl⟩⟩
  · have V1 := b6.box V5'.out (by omega)
    have A1 := b6.box A.out (by omega)
    have E1 := b6.box E.out (by omega)
    have B1 : Below w.heap.size w w6 := b6.after B5 B5.size (fun k hk => by omega)
    have H6 := Lib.hid h6
    clear b6 h6
    unfold FaultN
    obtain ⟨q, hq⟩ : ∃ q, q = skipN s.data.toList r.p := ⟨_, rfl⟩
    have HQ := Lib.hid hq
    rw [← hq]
    rw [← hq] at H6
    clear hq
    refine leaves_cons (f := 40) (args := #[.pointer (some ⟨w.heap.size, 0, none⟩), .pointer (some ⟨w.heap.size + 1, 0, none⟩), .pointer (some ⟨w.heap.size + 1 + 1, 0, none⟩)]) (by simp) (by simp [go_sem]) ?_
    refine (rd1_fault w.heap.size (w.heap.size + 1) (w.heap.size + 1 + 1) q 5 [] w6 _ V1 rfl 0 0 A1 E1 (by omega) (by omega) (by omega)).mono ?_
    rintro e u' z2 ⟨rfl, rfl, V9, A9, E9, b2⟩
    have b9 : Below w.heap.size w z2 := b2.after B1 (B1).size (fun k hk => by omega)
    have cc0 : z2.cell? ⟨w.heap.size, 0, none⟩ = some (.bool false) := V9.cell 0 rfl
    have cc1 : z2.cell? ⟨w.heap.size, 1, none⟩ = some (.bool false) := V9.cell 1 rfl
    have cc2 : z2.cell? ⟨w.heap.size, 2, none⟩ = some (.slice none 0 0) := V9.cell 2 rfl
    have cc3 : z2.cell? ⟨w.heap.size, 3, none⟩ = some (.slice none 0 0) := V9.cell 3 rfl
    have cc4 : z2.cell? ⟨w.heap.size, 4, none⟩ = some (.slice none 0 0) := V9.cell 4 rfl
    have ca : z2.cell? ⟨w.heap.size + 1, 0, none⟩ = some (.int .i64 q) := A9.cell 0 rfl
    have ce : z2.cell? ⟨w.heap.size + 1 + 1, 0, none⟩ = some (.int .i64 5) := E9.cell 0 rfl
    simp [Leaves, settle, results, Tryd.results21, go_sem, cc0, cc1, cc2, cc3, cc4, ca, ce]
    exact ⟨SV.nil, Sx.nil, q, 5, .inr ⟨by rw [HL.out]; omega, r, HR.out, .inr (.inl ⟨H1.out, by rw [← HQ.out, HL.out]; exact H6.out, rfl, HQ.out, rfl⟩)⟩, rfl, rd_nil _ _, b9⟩
  replace A := Lib.hid (b6.box A.out (by omega))
  replace E := Lib.hid (b6.box E.out (by omega))
  have V6 := Lib.hid (b6.box V5'.out (by omega))
  have RD6 := Lib.hid (RD5.out.but b6 (fun k hk => by omega))
  have B6 : Below w.heap.size w w6 := b6.after B5 B5.size (fun k hk => by omega)
  have H6 := Lib.hid h6
  have hz6 := b6.size
  clear b6 h6 V5' RD5 B5 X5
  go_wp2_with (refine wpList_load_box rfl 26 _ rfl V6.out (by rfl) Tryd.underlying26 rfl (by kernel_rfl) ?_)
  refine (mayB_any r.v ⟨vl, vh, a1, n1, c1, a2, n2, c2, a3, n3, c3⟩ w6 (RD6.out.mono (fun k hk => trivial)) mm HBR.out (HT.out.after B6)).mono ?_
  rintro e w7 ⟨rfl, b7⟩
  replace A := Lib.hid (A.out.after b7)
  replace E := Lib.hid (E.out.after b7)
  have V7 := Lib.hid (V6.out.after b7)
  have RD7 := Lib.hid (RD6.out.after b7)
  have B7 := B6.trans (b7.mono B6.size)
  have hz7 := b7.size
  clear b7 V6 RD6 B6
  cases hmy : r.v.may with
  | false =>
    have HM := Lib.hid hmy
    clear hmy
    go_wp2_with fail
    refine (wrong_any s.size 4 w7).mono ?_
    rintro e z1 ⟨rfl, rfl⟩
    unfold FaultN
    refine leaves_cons (f := 40) (args := #[.pointer (some ⟨w.heap.size, 0, none⟩), .pointer (some ⟨w.heap.size + 1, 0, none⟩), .pointer (some ⟨w.heap.size + 1 + 1, 0, none⟩)]) (by simp) (by simp [go_sem]) ?_
    refine (rd1_fault w.heap.size (w.heap.size + 1) (w.heap.size + 1 + 1) s.size 4 [] z1 _ V7.out rfl 0 0 A.out E.out (by omega) (by omega) (by omega)).mono ?_
    rintro e u' z2 ⟨rfl, rfl, V9, A9, E9, b2⟩
    have b9 : Below w.heap.size w z2 := b2.after B7 (B7).size (fun k hk => by omega)
    have cc0 : z2.cell? ⟨w.heap.size, 0, none⟩ = some (.bool false) := V9.cell 0 rfl
    have cc1 : z2.cell? ⟨w.heap.size, 1, none⟩ = some (.bool false) := V9.cell 1 rfl
    have cc2 : z2.cell? ⟨w.heap.size, 2, none⟩ = some (.slice none 0 0) := V9.cell 2 rfl
    have cc3 : z2.cell? ⟨w.heap.size, 3, none⟩ = some (.slice none 0 0) := V9.cell 3 rfl
    have cc4 : z2.cell? ⟨w.heap.size, 4, none⟩ = some (.slice none 0 0) := V9.cell 4 rfl
    have ca : z2.cell? ⟨w.heap.size + 1, 0, none⟩ = some (.int .i64 s.size) := A9.cell 0 rfl
    have ce : z2.cell? ⟨w.heap.size + 1 + 1, 0, none⟩ = some (.int .i64 4) := E9.cell 0 rfl
    simp [Leaves, settle, results, Tryd.results21, go_sem, cc0, cc1, cc2, cc3, cc4, ca, ce]
    exact ⟨SV.nil, Sx.nil, s.size, 4, .inr ⟨by rw [HL.out]; omega, r, HR.out, .inr (.inr (.inl ⟨H1.out, by rw [HL.out]; exact H6.out, HM.out, rfl, HL.out.symm, rfl⟩))⟩, rfl, rd_nil _ _, b9⟩
  | true =>
    have HM := Lib.hid hmy
    clear hmy
    go_wp2_with first | (refine wpList_load_box rfl 26 _ rfl V7.out (by rfl) Tryd.underlying26 rfl (by kernel_rfl) ?_) | (refine wpList_store_box (cells := #[.bool vl, .bool vh, .slice a1 n1 c1, .slice a2 n2 c2, .slice a3 n3 c3]) rfl 26 _ _ rfl V7.out (by rfl) (by rfl) rfl (by kernel_rfl) (by simp [Value.oneCell']) ?_; intro u9 X9 st9; have a9 := (st9.box A.out (by omega)).cell 0 rfl; have fa9 := (st9.box A.out (by omega)).frozen 0; have e9 := (st9.box E.out (by omega)).cell 0 rfl; have fe9 := (st9.box E.out (by omega)).frozen 0)
    have b59 : But (fun k => k = w.heap.size ∨ k = w.heap.size + 1 ∨ k = w.heap.size + 1 + 1) w7 ((u9.setCell ⟨w.heap.size + 1, 0, none⟩ (.int .i64 0)).setCell ⟨w.heap.size + 1 + 1, 0, none⟩ (.int .i64 0)) := (((But.ofStored st9 (st9.below 0 w7 (Nat.zero_le _) (Below.refl _ _))).mono (fun k hk => .inl hk)).setCell (p := ⟨w.heap.size + 1, 0, none⟩) (.inl (.inr (.inl rfl))) _).setCell (p := ⟨w.heap.size + 1 + 1, 0, none⟩) (.inl (.inr (.inr rfl))) _
    have V9 := (X9.far ⟨w.heap.size + 1, 0, none⟩ (.int .i64 0) (by show w.heap.size ≠ w.heap.size + 1; omega)).far ⟨w.heap.size + 1 + 1, 0, none⟩ (.int .i64 0) (by show w.heap.size ≠ w.heap.size + 1 + 1; omega)
    have A9 : Box ((u9.setCell ⟨w.heap.size + 1, 0, none⟩ (.int .i64 0)).setCell ⟨w.heap.size + 1 + 1, 0, none⟩ (.int .i64 0)) (w.heap.size + 1) 3 #[.int .i64 0] := ((st9.box A.out (by omega)).set 0 (.int .i64 0)).far ⟨w.heap.size + 1 + 1, 0, none⟩ (.int .i64 0) (by show w.heap.size + 1 ≠ w.heap.size + 1 + 1; omega)
    have E9 : Box ((u9.setCell ⟨w.heap.size + 1, 0, none⟩ (.int .i64 0)).setCell ⟨w.heap.size + 1 + 1, 0, none⟩ (.int .i64 0)) (w.heap.size + 1 + 1) 27 #[.int .i64 0] := ((st9.box E.out (by omega)).far ⟨w.heap.size + 1, 0, none⟩ (.int .i64 0) (by show w.heap.size + 1 + 1 ≠ w.heap.size + 1; omega)).set 0 (.int .i64 0)
    generalize ((u9.setCell ⟨w.heap.size + 1, 0, none⟩ (.int .i64 0)).setCell ⟨w.heap.size + 1 + 1, 0, none⟩ (.int .i64 0)) = u8 at *
    have b9 : Below w.heap.size w u8 := b59.after B7 B7.size (fun k hk => by omega)
    have RD9 : RdI (fun k => w.heap.size ≤ k) u8 ⟨vl, vh, a1, n1, c1, a2, n2, c2, a3, n3, c3⟩ r.v := (RD7.out.but b59 (fun k hk e => by omega)).mono (fun k hk => by omega)
    have cc0 : u8.cell? ⟨w.heap.size, 0, none⟩ = some (.bool vl) := V9.cell 0 rfl
    have cc1 : u8.cell? ⟨w.heap.size, 1, none⟩ = some (.bool vh) := V9.cell 1 rfl
    have cc2 : u8.cell? ⟨w.heap.size, 2, none⟩ = some (.slice a1 n1 c1) := V9.cell 2 rfl
    have cc3 : u8.cell? ⟨w.heap.size, 3, none⟩ = some (.slice a2 n2 c2) := V9.cell 3 rfl
    have cc4 : u8.cell? ⟨w.heap.size, 4, none⟩ = some (.slice a3 n3 c3) := V9.cell 4 rfl
    have ca : u8.cell? ⟨w.heap.size + 1, 0, none⟩ = some (.int .i64 0) := A9.cell 0 rfl
    have ce : u8.cell? ⟨w.heap.size + 1 + 1, 0, none⟩ = some (.int .i64 0) := E9.cell 0 rfl
    refine leaves_cons (f := 40) (args := #[.pointer (some ⟨w.heap.size, 0, none⟩), .pointer (some ⟨w.heap.size + 1, 0, none⟩), .pointer (some ⟨w.heap.size + 1 + 1, 0, none⟩)]) (by simp) (by simp [go_sem]) ?_
    refine (rd1_idle _ _ _ _).mono ?_
    rintro e u' w'' ⟨rfl, rfl, rfl⟩
    simp [Leaves, settle, results, Tryd.results21, go_sem, cc0, cc1, cc2, cc3, cc4, ca, ce]
    exact ⟨⟨vl, vh, a1, n1, c1, a2, n2, c2, a3, n3, c3⟩, r.v, 0, 0, .inr ⟨by rw [HL.out]; omega, r, HR.out, .inr (.inr (.inr ⟨H1.out, by rw [HL.out]; exact H6.out, HM.out, rfl, rfl, rfl⟩))⟩, rfl, RD9, b9⟩

set_option maxHeartbeats 4000000 in
set_option maxRecDepth 100000 in
theorem read1_any (g : Nat) (s : ByteArray) (w : World) (hs : s.size ≤ 100000) (hX : Box w g 72 (RdN s 0 0)) : Calls Tryd.prog 22 #[.pointer (some ⟨g, 0, none⟩)] w (ValN (Nt s.data.toList none 0 1 0) g s w) := by
  have hgw := hX.lt
  have B0 : Below w.heap.size w (w.alloc (.cells #[.bool false, .bool false, .slice none 0 0, .slice none 0 0, .slice none 0 0] 26)) := (Below.refl _ _).alloc (Nat.le_refl _) _
  have R := Lib.hid (Box.new w 26 #[.bool false, .bool false, .slice none 0 0, .slice none 0 0, .slice none 0 0])
  have X := Lib.hid (hX.after B0)
  have hz : w.heap.size < ((w.alloc (.cells #[.bool false, .bool false, .slice none 0 0, .slice none 0 0, .slice none 0 0] 26))).heap.size := R.out.lt
  have U : Hid (But (fun k => k = g) w (w.alloc (.cells #[.bool false, .bool false, .slice none 0 0, .slice none 0 0, .slice none 0 0] 26))) := Lib.hid (But.ofBelow B0)
  clear hX B0
  go_enter Tryd.func22, Tryd.ntmps22
  go_upto_region 1 with fail
  change Code.wp _ _ _ _ (w.alloc (.cells #[.bool false, .bool false, .slice none 0 0, .slice none 0 0, .slice none 0 0] 26))
  generalize (w.alloc (.cells #[.bool false, .bool false, .slice none 0 0, .slice none 0 0, .slice none 0 0] 26)) = u0 at *
  go_wp2_with fail
  refine (valueN_any g s 0 0 1 u0 X.out hs (by omega) (by omega) (by omega)).mono ?_
  rintro e w1 ⟨b1, r, hr, ⟨h1, rfl⟩ | ⟨h1, v, rfl, rd, X1⟩⟩
  · have HR := Lib.hid hr
    have H1 := Lib.hid h1
    have HB := Lib.hid (U.out.trans b1 (fun k hk => .inl hk))
    clear hr h1 b1
    unfold FaultN
    go_wp2_with fail
    exact ⟨rfl, HB.out, r, HR.out, .inl ⟨H1.out, rfl⟩⟩
  · have HR := Lib.hid hr
    have H1 := Lib.hid h1
    have HB := Lib.hid (U.out.trans b1 (fun k hk => .inl hk))
    have HRD := Lib.hid rd
    have HX1 := Lib.hid X1
    replace R := Lib.hid (b1.box R.out (by omega))
    have hz1 := b1.size
    clear hr h1 b1 rd X1
    obtain ⟨vl, vh, a1, n1, c1, a2, n2, c2, a3, n3, c3⟩ := v
    unfold SV.val
    go_wp2_with (refine wpList_store_box (cells := #[.bool vl, .bool vh, .slice a1 n1 c1, .slice a2 n2 c2, .slice a3 n3 c3]) rfl 26 _ _ rfl R.out (by rfl) (by rfl) rfl (by kernel_rfl) (by simp [Value.oneCell']) ?_; intro u9 X9 st9)
    have b9 : But (fun k => k = w.heap.size) w1 u9 := But.ofStored st9 (st9.below 0 w1 (Nat.zero_le _) (Below.refl _ _))
    exact bodyPost_ret (v := .agg #[.bool vl, .bool vh, .slice a1 n1 c1, .slice a2 n2 c2, .slice a3 n3 c3]) (box_result rfl _ _ (by rfl) X9 Tryd.underlying26 rfl (by kernel_rfl)) rfl ⟨HB.out.trans b9 (fun k hk => .inr (by omega)), r, HR.out, .inr ⟨H1.out, ⟨vl, vh, a1, n1, c1, a2, n2, c2, a3, n3, c3⟩, rfl, (HRD.out.but b9 (fun k hk e => by omega)).mono (fun k hk => by omega), b9.box HX1.out (by omega)⟩⟩
set_option maxRecDepth 100000 in
theorem read_reads (s : ByteArray) (hs : s.size ≤ 16384) : Reads 22 (Nt s.data.toList none 0 1 0) s :=
  ⟨fun _ _ => rfl, fun g w hX _ => read1_any g s w (by omega) hX, fun r hr he => ⟨by have := (Nt_place hr he (Nat.zero_le _)).2.1; simpa using this, 1, (Nt_ok hr (by simp; omega) he (by decide) (by decide) (Nat.zero_le _)).1⟩⟩

set_option maxHeartbeats 4000000 in
set_option maxRecDepth 100000 in
theorem readN_any (s : ByteArray) (w : World) (ht : Tab w) : Calls Tryd.prog 9 #[.string s] w (ReadP (Nt s.data.toList none 0 1 0) s.data.toList w) := by
  have R := Lib.hid (Box.new w 26 #[.bool false, .bool false, .slice none 0 0, .slice none 0 0, .slice none 0 0])
  have B0 : Below w.heap.size w (w.alloc (.cells #[.bool false, .bool false, .slice none 0 0, .slice none 0 0, .slice none 0 0] 26)) := (Below.refl _ _).alloc (Nat.le_refl _) _
  have CA := Lib.hid (fun w' h => reads_any 22 (Nt s.data.toList none 0 1 0) s (read_reads s) w' h)
  have HT := Lib.hid (ht.after B0)
  clear ht
  go_enter Tryd.func9, Tryd.ntmps9
  go_upto_region 1 with fail
  change Code.wp _ _ _ _ (w.alloc (.cells #[.bool false, .bool false, .slice none 0 0, .slice none 0 0, .slice none 0 0] 26))
  generalize (w.alloc (.cells #[.bool false, .bool false, .slice none 0 0, .slice none 0 0, .slice none 0 0] 26)) = u0 at *
  go_wp2_with fail
  refine (CA.out u0 HT.out).mono ?_
  rintro e w1 ⟨v, sx, p, x, hg, rfl, rd, b1⟩
  obtain ⟨vl, vh, a1, n1, c1, a2, n2, c2, a3, n3, c3⟩ := v
  have HG := Lib.hid hg
  have HRD := Lib.hid rd
  have hz0 := B0.size
  have hz1 := R.out.lt
  replace R := Lib.hid (R.out.after b1)
  have B1 := B0.trans (b1.mono hz0)
  clear hg rd b1
  go_wp2_with (refine wpList_store_box (cells := #[.bool vl, .bool vh, .slice a1 n1 c1, .slice a2 n2 c2, .slice a3 n3 c3]) rfl 26 _ _ rfl R.out (by rfl) (by rfl) rfl (by kernel_rfl) (by simp [Value.oneCell']) ?_; intro u9 X9 st9)
  have b9 : But (fun k => k = w.heap.size) w1 u9 := But.ofStored st9 (st9.below 0 w1 (Nat.zero_le _) (Below.refl _ _))
  exact bodyPost_ret (v := .tuple #[.agg #[.bool vl, .bool vh, .slice a1 n1 c1, .slice a2 n2 c2, .slice a3 n3 c3], .int .i64 p, .int .i64 x]) (box_result22 (p := 2) (q := 3) (r := 4) rfl _ _ (by rfl) X9 Tryd.underlying26 rfl (by kernel_rfl)) rfl ⟨⟨vl, vh, a1, n1, c1, a2, n2, c2, a3, n3, c3⟩, sx, p, x, HG.out, rfl, (HRD.out.but b9 (fun k hk e => by omega)).mono (fun k hk => by omega), b9.after B1 B1.size (fun k hk => by omega)⟩

end Go.Proofs.YtkbblhioncecmaaDoor

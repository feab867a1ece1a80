/- The program's reads, of advanced forms and of others; Read. Notation: the program's printers: bytes written to a builder, tests of bytes. Notation: the program's printers: quotes, bytes. Notation: the program's plain. Notation: what a value is printed as. Notation: the builder's functions, with what they leave alone. Notation: WriteByte, WriteString, Write: what they leave alone. Notation: WriteByte: what it leaves alone. Notation: the program's quote, with what it leaves alone. Notation: the program's plain, with what it leaves alone. Notation: the program's value. Notation: the program's Print and Pack. The law's awake: the document's example of notation. -/
import Derived.Test.YtkbblhioncecmaaGreatDoorNzG9
namespace Go.Proofs.YtkbblhioncecmaaGreatDoor
open Go.RowKit
set_option linter.unusedSimpArgs false
set_option linter.unusedVariables false

def EndN (g : Nat) (s : ByteArray) (p : Nat) (w : World) (e : Ending) (w' : World) : Prop :=
  But (fun k => k = g) w w' ∧ ((skipN s.data.toList p < s.size ∧ e = FaultN (skipN s.data.toList p) 5) ∨ (s.size ≤ skipN s.data.toList p ∧ e = .returned (.tuple #[])))
set_option maxHeartbeats 4000000 in
set_option maxRecDepth 100000 in
theorem endedN_any (g : Nat) (s : ByteArray) (p m : Nat) (w : World) (hX : Box w g 59 (RdN s p m)) (hs : s.size ≤ 100000) (hp : p ≤ s.size) : Calls Tryz.prog 23 #[.pointer (some ⟨g, 0, none⟩)] w (EndN g s p w) := by
  have HX := Lib.hid hX
  clear hX
  go_enter Tryz.func23, Tryz.ntmps23
  go_wp2_with fail
  refine (skipN_any g s p m w HX.out (by omega) hp).mono ?_
  rintro e w1 ⟨rfl, X1, b1⟩
  obtain ⟨q, hq⟩ : ∃ q, q = skipN s.data.toList p := ⟨_, rfl⟩
  rw [← hq] at X1
  have HQ := Lib.hid hq
  have HB := Lib.hid b1
  have HX1 := Lib.hid X1
  have x0 := X1.cell 0 rfl
  have x1 := X1.cell 1 rfl
  clear hq b1 X1 HX
  by_cases h : q < s.size
  · have h' : (q : Int) < (s.size : Int) := by omega
    go_wp2_with fail
    go_quiet (fail)
    go_wp2_with fail
    refine (wrong_any q 5 _).mono ?_
    rintro e w2 ⟨rfl, rfl⟩
    unfold FaultN
    go_wp2_with fail
    exact ⟨rfl, HB.out.drewN _, .inl ⟨by rw [← HQ.out]; exact h, by rw [← HQ.out]; rfl⟩⟩
  · have h' : ¬ (q : Int) < (s.size : Int) := by omega
    go_wp2_with fail
    go_quiet (fail)
    go_wp2_with fail
    exact bodyPost_ret (results_none rfl _ _ _) rfl ⟨HB.out.drewN _, .inr ⟨by rw [← HQ.out]; omega, rfl⟩⟩


set_option maxHeartbeats 4000000 in
set_option maxRecDepth 100000 in
theorem rd1_idle (V A E : Nat) (w : World) :
    CallsD Tryz.prog 21 #[.pointer (some ⟨V, 0, none⟩), .pointer (some ⟨A, 0, none⟩), .pointer (some ⟨E, 0, none⟩)] .returning w fun e u' w' => e = .returned (.tuple #[]) ∧ u' = .returning ∧ w' = w := by
  refine callsD_of_wpS Tryz.func21 rfl fun c₀ cs hu => ?_
  apply wpS_seq
  apply wpS_region
  simp [wpOpsS, go_sem, recoverD, hu, Tryz.ntmps21, Exit.thenS]
  refine wpS_of_wp ?_
  go_wp2_with fail
  cases c₀
  simp_all [bodyPostS, results, Tryz.results21]

set_option maxHeartbeats 4000000 in
set_option maxRecDepth 100000 in
theorem rd1_fault (V A E p x : Nat) (older : List PanicEntry) (w : World) (vc : Array Value) (hV : Box w V 26 vc) (hvc : vc.size = 5) (z1 z2 : Int) (hA : Box w A 3 #[.int .i64 z1]) (hE : Box w E 27 #[.int .i64 z2]) (hVA : V ≠ A) (hVE : V ≠ E) (hAE : A ≠ E) :
    CallsD Tryz.prog 21 #[.pointer (some ⟨V, 0, none⟩), .pointer (some ⟨A, 0, none⟩), .pointer (some ⟨E, 0, none⟩)] (.panicking ({ v := .iface 56 (.agg #[.int .i64 p, .int .i64 x]), recovered := false } :: older)) w fun e u' w' =>
      e = .returned (.tuple #[]) ∧ u' = .panicking ({ v := .iface 56 (.agg #[.int .i64 p, .int .i64 x]), recovered := true } :: older) ∧ Box w' V 26 #[.bool false, .bool false, .slice none 0 0, .slice none 0 0, .slice none 0 0] ∧ Box w' A 3 #[.int .i64 p] ∧ Box w' E 27 #[.int .i64 x] ∧ But (fun k => k = V ∨ k = A ∨ k = E) w w' := by
  refine callsD_of_wpS Tryz.func21 rfl fun c₀ cs hu => ?_
  have HV := Lib.hid hV
  have HA := Lib.hid hA
  have HE := Lib.hid hE
  have hta : ∀ w, (Instr.typeAssert (.iface 56 (.agg #[.int .i64 p, .int .i64 x])) 20 56 true).run Tryz.prog w = .ok (.tuple #[.agg #[.int .i64 p, .int .i64 x], .bool true]) w := fun _ => by kernel_rfl
  apply wpS_seq
  apply wpS_region
  simp [wpOpsS, go_sem, recoverD, hu, Tryz.ntmps21, Exit.thenS]
  refine wpS_of_wp ?_
  have hVw := hV.lt
  have hAw := hA.lt
  have hEw := hE.lt
  have Y0 := Box.new w 56 #[.int .i64 0, .int .i64 0]
  clear hV hA hE
  change Code.wp _ _ _ { tmps := #[.pointer (some ⟨V, 0, none⟩), .pointer (some ⟨A, 0, none⟩), .pointer (some ⟨E, 0, none⟩), undef, undef, undef, .iface 56 (.agg #[.int .i64 p, .int .i64 x]), undef, undef, undef, undef, undef, undef, undef, undef, undef, undef], defers := [] } w
  go_upto_region 6 with fail
  go_upto_region 7 with (refine wpList_store_box (cells := #[.int .i64 p, .int .i64 x]) rfl 56 _ _ rfl Y0 (by rfl) (by rfl) rfl (by kernel_rfl) (by simp [Value.oneCell']) ?_; intro u9 X9 st9)
  have HB1 : Hid (But (fun _ => False) w u9) := Lib.hid (But.ofBelow (st9.below w.heap.size w (Nat.le_refl _) ((Below.refl _ _).alloc (Nat.le_refl _) _)))
  have HV1 := Lib.hid (HB1.out.box HV.out (fun h => h))
  have HA1 := Lib.hid (HB1.out.box HA.out (fun h => h))
  have HE1 := Lib.hid (HB1.out.box HE.out (fun h => h))
  replace HV := HV1
  replace HA := HA1
  replace HE := HE1
  clear st9 Y0 HV1 HA1 HE1
  obtain ⟨F, hF⟩ : ∃ F, F = w.heap.size := ⟨_, rfl⟩
  have hVF : V ≠ F := by omega
  have hAF : A ≠ F := by omega
  have hEF : E ≠ F := by omega
  have YF := X9
  rw [← hF] at YF ⊢
  clear X9
  have hKS : Keeps (fun w' => Box w' F 56 #[.int .i64 p, .int .i64 x]) := fun w w' h b => h.after b
  refine wp_region_U (w := u9) (fun w' => Box w' F 56 #[.int .i64 p, .int .i64 x]) rfl YF.drew ?_
  refine wpU_val 0 hKS rfl (by kernel_rfl) (by kernel_rfl) (by kernel_rfl) rfl (fun _ _ _ _ h => h) (.agg #[.bool false, .bool false, .slice none 0 0, .slice none 0 0, .slice none 0 0]) (fun w' h => by simp [go_sem]) ?_
  simp only [Act.put, List.setIfInBounds_toArray, List.set_cons_zero, List.set_cons_succ]
  refine wpU_val 1 hKS rfl (by kernel_rfl) (by kernel_rfl) (by kernel_rfl) rfl (fun _ _ _ _ h => h) (.pointer (some ⟨F, 0, none⟩)) (fun w' h => by simp [go_sem]) ?_
  simp only [Act.put, List.setIfInBounds_toArray, List.set_cons_zero, List.set_cons_succ]
  refine wpU_val 2 hKS rfl (by kernel_rfl) (by kernel_rfl) (by kernel_rfl) rfl (fun _ _ _ _ h => h) (.int .i64 p) (fun w' h => by simp [go_sem, h.cell 0 rfl]) ?_
  simp only [Act.put, List.setIfInBounds_toArray, List.set_cons_zero, List.set_cons_succ]
  refine wpU_val 3 hKS rfl (by kernel_rfl) (by kernel_rfl) (by kernel_rfl) rfl (fun _ _ _ _ h => h) (.pointer (some ⟨F, 1, none⟩)) (fun w' h => by simp [go_sem]) ?_
  simp only [Act.put, List.setIfInBounds_toArray, List.set_cons_zero, List.set_cons_succ]
  refine wpU_val 4 hKS rfl (by kernel_rfl) (by kernel_rfl) (by kernel_rfl) rfl (fun _ _ _ _ h => h) (.int .i64 x) (fun w' h => by simp [go_sem, h.cell 1 rfl]) ?_
  simp only [Act.put, List.setIfInBounds_toArray, List.set_cons_zero, List.set_cons_succ]
  refine wpU_store_box (cells := #[.bool false, .bool false, .slice none 0 0, .slice none 0 0, .slice none 0 0]) 5 rfl (by kernel_rfl) rfl 26 _ _ rfl HV.out.drew (by rfl) (by rfl) (by simpa using hvc) (by kernel_rfl) (by simp [Value.oneCell']) ?_
  intro w2 w3 b2 s2 V3 st3
  have b23 : But (fun k => k = V) w2 w3 := But.ofStored st3 (st3.below 0 w2 (Nat.zero_le _) (Below.refl _ _))
  refine ⟨b23.box s2 hVF.symm, ?_⟩
  simp only [Act.put, List.setIfInBounds_toArray, List.set_cons_zero, List.set_cons_succ]
  have A3 := b23.box (HA.out.drew.after b2) hVA.symm
  have E3 := b23.box (HE.out.drew.after b2) hVE.symm
  refine wpU_store_cell 6 rfl (by kernel_rfl) rfl 3 _ _ rfl A3 0 (k := .i64) (n := (p : Int)) rfl rfl (show 0 < 1 by decide) (fun w => by simp [go_sem]) ?_
  intro w4 w5 b4 s4 A5 st5
  have b45 : But (fun k => k = A) w4 w5 := But.ofStored st5 (st5.below 0 w4 (Nat.zero_le _) (Below.refl _ _))
  refine ⟨b45.box s4 hAF.symm, ?_⟩
  simp only [Act.put, List.setIfInBounds_toArray, List.set_cons_zero, List.set_cons_succ]
  have E5 := b45.box (E3.after b4) hAE.symm
  have V5 := b45.box (V3.after b4) hVA
  refine wpU_store_cell 7 rfl (by kernel_rfl) rfl 27 _ _ rfl E5 0 (k := .i64) (n := (x : Int)) rfl rfl (show 0 < 1 by decide) (fun w => by simp [go_sem]) ?_
  intro w6 w7 b6 s6 E7 st7
  have b67 : But (fun k => k = E) w6 w7 := But.ofStored st7 (st7.below 0 w6 (Nat.zero_le _) (Below.refl _ _))
  refine ⟨b67.box s6 hEF.symm, ?_⟩
  simp only [Act.put, List.setIfInBounds_toArray, List.set_cons_zero, List.set_cons_succ]
  have A7 := b67.box (A5.after b6) hAE
  have V7 := b67.box (V5.after b6) hVE
  refine wpU_done (by kernel_rfl) ?_
  intro w8 b8 s8
  have V8 := V7.after b8
  have A8 : Box w8 A 3 #[.int .i64 p] := A7.after b8
  have E8 : Box w8 E 27 #[.int .i64 x] := E7.after b8
  have ev : ∀ u v : World, Below u.heap.size u v → But (fun _ => False) u v := fun u v h => But.ofBelow h
  have B8 : But (fun k => k = V ∨ k = A ∨ k = E) w w8 := ((((((HB1.out.mono (fun k hk => hk.elim)).trans (ev _ _ ((Below.refl _ _).drew.trans b2)) (fun k hk => hk.elim)).trans b23 (fun k hk => .inl (.inl hk))).trans (ev _ _ b4) (fun k hk => hk.elim)).trans b45 (fun k hk => .inl (.inr (.inl hk)))).trans (ev _ _ b6) (fun k hk => hk.elim)).trans (b67.trans (ev _ _ b8) (fun k hk => hk.elim)) (fun k hk => .inl (.inr (.inr hk)))
  clear hKS s2 s4 s6 s8 A3 E3 A5 E5 V3 V5 V7 A7 E7 b2 b4 b6 b8 b23 b45 b67 ev st3 st5 st7 HV HA HE YF
  go_wp2_with fail
  cases c₀
  simp_all [bodyPostS, results, Tryz.results21]

/-- what reads answers: a value, a place, an error -/
def GotN (Rel : RV → Prop) (l : List UInt8) (sx : Sx) (p e : Nat) : Prop :=
  (16384 < l.length ∧ sx = Sx.nil ∧ p = 16384 ∧ e = 4) ∨ (l.length ≤ 16384 ∧ ∃ r, Rel r ∧ ((r.e ≠ 0 ∧ sx = Sx.nil ∧ p = r.p ∧ e = r.e) ∨ (r.e = 0 ∧ skipN l r.p < l.length ∧ sx = Sx.nil ∧ p = skipN l r.p ∧ e = 5) ∨
    (r.e = 0 ∧ l.length ≤ skipN l r.p ∧ r.v.may = false ∧ sx = Sx.nil ∧ p = l.length ∧ e = 4) ∨ (r.e = 0 ∧ l.length ≤ skipN l r.p ∧ r.v.may = true ∧ sx = r.v ∧ p = 0 ∧ e = 0)))
def ReadP (Rel : RV → Prop) (l : List UInt8) (w : World) (e : Ending) (w' : World) : Prop :=
  ∃ (v : SV) (s : Sx) (p x : Nat), GotN Rel l s p x ∧ e = .returned (.tuple #[.agg #[.bool v.l, .bool v.h, .slice v.a1 v.n1 v.c1, .slice v.a2 v.n2 v.c2, .slice v.a3 v.n3 v.c3], .int .i64 p, .int .i64 x]) ∧ RdI (fun k => w.heap.size ≤ k) w' v s ∧ Below w.heap.size w w'
/-- a reading function: what it is told, and what it may yield -/
structure Reads (F : FuncId) (Rel : RV → Prop) (s : ByteArray) : Prop where
  enter : ∀ (args : Array Value) (w : World), (callFunc F args).run Tryz.prog w = .ok (.enter F args) w
  run : ∀ (g : Nat) (w : World), Box w g 59 (RdN s 0 0) → Tab w → Calls Tryz.prog F #[.pointer (some ⟨g, 0, none⟩)] w (ValN Rel g s w)
  ok : ∀ r, Rel r → r.e = 0 → r.p ≤ s.size ∧ ∃ m, r.v.broad m = false

set_option maxHeartbeats 16000000 in
set_option maxRecDepth 100000 in
theorem reads_any (F : FuncId) (Rel : RV → Prop) (s : ByteArray) (hF : s.size ≤ 16384 → Reads F Rel s) (w : World) (ht : Tab w) :
    Calls Tryz.prog 10 #[.string s, .func (.func F) #[] #[]] w (ReadP Rel s.data.toList w) := by
  have HL : Hid (s.data.toList.length = s.size) := Lib.hid (by simp)
  have HF := Lib.hid hF
  have HT := Lib.hid ht
  have hmf : ∀ (fn : Fn) (first cap : Array Value) (w : World), (Instr.makeFunc fn first cap).run Tryz.prog w = .ok (.func fn first cap) w := fun _ _ _ _ => rfl
  have B : Below w.heap.size w (((w.alloc (.cells #[.bool false, .bool false, .slice none 0 0, .slice none 0 0, .slice none 0 0] 26)).alloc (.cells #[.int .i64 0] 3)).alloc (.cells #[.int .i64 0] 27)) := (((Below.refl _ _).alloc (Nat.le_refl _) _).alloc (by simp) _).alloc (by simp; omega) _
  have V : Hid (Box (((w.alloc (.cells #[.bool false, .bool false, .slice none 0 0, .slice none 0 0, .slice none 0 0] 26)).alloc (.cells #[.int .i64 0] 3)).alloc (.cells #[.int .i64 0] 27)) w.heap.size 26 #[.bool false, .bool false, .slice none 0 0, .slice none 0 0, .slice none 0 0]) := Lib.hid (((Box.new _ _ _).alloc _).alloc _)
  have A : Hid (Box (((w.alloc (.cells #[.bool false, .bool false, .slice none 0 0, .slice none 0 0, .slice none 0 0] 26)).alloc (.cells #[.int .i64 0] 3)).alloc (.cells #[.int .i64 0] 27)) (w.heap.size + 1) 3 #[.int .i64 0]) := Lib.hid (by
    have := (Box.new (w.alloc (.cells #[.bool false, .bool false, .slice none 0 0, .slice none 0 0, .slice none 0 0] 26)) 3 #[.int .i64 0]).alloc (.cells #[.int .i64 0] 27)
    simpa using this)
  have E : Hid (Box (((w.alloc (.cells #[.bool false, .bool false, .slice none 0 0, .slice none 0 0, .slice none 0 0] 26)).alloc (.cells #[.int .i64 0] 3)).alloc (.cells #[.int .i64 0] 27)) (w.heap.size + 1 + 1) 27 #[.int .i64 0]) := Lib.hid (by
    have := Box.new ((w.alloc (.cells #[.bool false, .bool false, .slice none 0 0, .slice none 0 0, .slice none 0 0] 26)).alloc (.cells #[.int .i64 0] 3)) 27 #[.int .i64 0]
    simpa using this)
  have hz : ((((w.alloc (.cells #[.bool false, .bool false, .slice none 0 0, .slice none 0 0, .slice none 0 0] 26)).alloc (.cells #[.int .i64 0] 3)).alloc (.cells #[.int .i64 0] 27))).heap.size = w.heap.size + 3 := by simp
  have HZ := Lib.hid hz
  clear hF ht hz
  by_cases hlong : 16384 < s.size
  · have hlong' : (16384 : Int) < (s.size : Int) := by omega
    go_enter_defers Tryz.func10, Tryz.ntmps10
    go_upto_region 1 with fail
    change Code.wp _ _ _ _ (((w.alloc (.cells #[.bool false, .bool false, .slice none 0 0, .slice none 0 0, .slice none 0 0] 26)).alloc (.cells #[.int .i64 0] 3)).alloc (.cells #[.int .i64 0] 27))
    generalize (((w.alloc (.cells #[.bool false, .bool false, .slice none 0 0, .slice none 0 0, .slice none 0 0] 26)).alloc (.cells #[.int .i64 0] 3)).alloc (.cells #[.int .i64 0] 27)) = u0 at *
    go_wp2_with fail
    refine (wrong_any 16384 4 u0).mono ?_
    rintro e z1 ⟨rfl, rfl⟩
    unfold FaultN
    refine leaves_cons (f := 21) (args := #[.pointer (some ⟨w.heap.size, 0, none⟩), .pointer (some ⟨w.heap.size + 1, 0, none⟩), .pointer (some ⟨w.heap.size + 1 + 1, 0, none⟩)]) (by simp) (by simp [go_sem]) ?_
    refine (rd1_fault w.heap.size (w.heap.size + 1) (w.heap.size + 1 + 1) 16384 4 [] z1 _ V.out rfl 0 0 A.out E.out (by omega) (by omega) (by omega)).mono ?_
    rintro e u' z2 ⟨rfl, rfl, V9, A9, E9, b2⟩
    have b9 : Below w.heap.size w z2 := b2.after B (B).size (fun k hk => by omega)
    have cc0 : z2.cell? ⟨w.heap.size, 0, none⟩ = some (.bool false) := V9.cell 0 rfl
    have cc1 : z2.cell? ⟨w.heap.size, 1, none⟩ = some (.bool false) := V9.cell 1 rfl
    have cc2 : z2.cell? ⟨w.heap.size, 2, none⟩ = some (.slice none 0 0) := V9.cell 2 rfl
    have cc3 : z2.cell? ⟨w.heap.size, 3, none⟩ = some (.slice none 0 0) := V9.cell 3 rfl
    have cc4 : z2.cell? ⟨w.heap.size, 4, none⟩ = some (.slice none 0 0) := V9.cell 4 rfl
    have ca : z2.cell? ⟨w.heap.size + 1, 0, none⟩ = some (.int .i64 16384) := A9.cell 0 rfl
    have ce : z2.cell? ⟨w.heap.size + 1 + 1, 0, none⟩ = some (.int .i64 4) := E9.cell 0 rfl
    simp [Leaves, settle, results, Tryz.results10, go_sem, cc0, cc1, cc2, cc3, cc4, ca, ce]
    exact ⟨SV.nil, Sx.nil, 16384, 4, .inl ⟨by rw [HL.out]; exact hlong, rfl, rfl, rfl⟩, rfl, rd_nil _ _, b9⟩
  have hlong' : ¬ (16384 : Int) < (s.size : Int) := by omega
  replace HF := Lib.hid (HF.out (by omega))
  go_enter_defers Tryz.func10, Tryz.ntmps10
  go_upto_region 1 with fail
  change Code.wp _ _ _ _ (((w.alloc (.cells #[.bool false, .bool false, .slice none 0 0, .slice none 0 0, .slice none 0 0] 26)).alloc (.cells #[.int .i64 0] 3)).alloc (.cells #[.int .i64 0] 27))
  generalize (((w.alloc (.cells #[.bool false, .bool false, .slice none 0 0, .slice none 0 0, .slice none 0 0] 26)).alloc (.cells #[.int .i64 0] 3)).alloc (.cells #[.int .i64 0] 27)) = u0 at *
  go_upto_region 5 with fail
  have X : Hid (Box (u0.alloc (.cells #[.string s, .int .i64 0, .int .i64 0] 59)) u0.heap.size 59 (RdN s 0 0)) := Lib.hid (Box.new _ _ _)
  have ba : Below u0.heap.size u0 (u0.alloc (.cells #[.string s, .int .i64 0, .int .i64 0] 59)) := (Below.refl _ _).alloc (Nat.le_refl _) _
  replace V := Lib.hid (V.out.after ba)
  replace A := Lib.hid (A.out.after ba)
  replace E := Lib.hid (E.out.after ba)
  replace B := B.trans (ba.mono B.size)
  have hgz : w.heap.size + 3 ≤ u0.heap.size := by have := HZ.out; omega
  have hg1 := X.out.lt
  clear ba
  change Code.wp _ _ _ _ (u0.alloc (.cells #[.string s, .int .i64 0, .int .i64 0] 59))
  generalize (u0.alloc (.cells #[.string s, .int .i64 0, .int .i64 0] 59)) = u1 at *
  clear HZ
  generalize u0.heap.size = g at *
  go_wp2_with fail
  rw [HF.out.enter]
  refine (HF.out.run g u1 X.out (HT.out.after B)).mono ?_
  rintro e w1 ⟨b1, r, hr, ⟨h1, rfl⟩ | ⟨h1, v, rfl, rd, X1⟩⟩
  · have HR := Lib.hid hr
    have H1 := Lib.hid h1
    have V1 := b1.box V.out (by omega)
    have A1 := b1.box A.out (by omega)
    have E1 := b1.box E.out (by omega)
    have B1 : Below w.heap.size w w1 := b1.after B B.size (fun k hk => by omega)
    clear hr h1 b1
    unfold FaultN
    refine leaves_cons (f := 21) (args := #[.pointer (some ⟨w.heap.size, 0, none⟩), .pointer (some ⟨w.heap.size + 1, 0, none⟩), .pointer (some ⟨w.heap.size + 1 + 1, 0, none⟩)]) (by simp) (by simp [go_sem]) ?_
    refine (rd1_fault w.heap.size (w.heap.size + 1) (w.heap.size + 1 + 1) r.p r.e [] w1 _ V1 rfl 0 0 A1 E1 (by omega) (by omega) (by omega)).mono ?_
    rintro e u' z2 ⟨rfl, rfl, V9, A9, E9, b2⟩
    have b9 : Below w.heap.size w z2 := b2.after B1 (B1).size (fun k hk => by omega)
    have cc0 : z2.cell? ⟨w.heap.size, 0, none⟩ = some (.bool false) := V9.cell 0 rfl
    have cc1 : z2.cell? ⟨w.heap.size, 1, none⟩ = some (.bool false) := V9.cell 1 rfl
    have cc2 : z2.cell? ⟨w.heap.size, 2, none⟩ = some (.slice none 0 0) := V9.cell 2 rfl
    have cc3 : z2.cell? ⟨w.heap.size, 3, none⟩ = some (.slice none 0 0) := V9.cell 3 rfl
    have cc4 : z2.cell? ⟨w.heap.size, 4, none⟩ = some (.slice none 0 0) := V9.cell 4 rfl
    have ca : z2.cell? ⟨w.heap.size + 1, 0, none⟩ = some (.int .i64 r.p) := A9.cell 0 rfl
    have ce : z2.cell? ⟨w.heap.size + 1 + 1, 0, none⟩ = some (.int .i64 r.e) := E9.cell 0 rfl
    simp [Leaves, settle, results, Tryz.results10, go_sem, cc0, cc1, cc2, cc3, cc4, ca, ce]
    exact ⟨SV.nil, Sx.nil, r.p, r.e, .inr ⟨by rw [HL.out]; omega, r, HR.out, .inl ⟨H1.out, rfl, rfl, rfl⟩⟩, rfl, rd_nil _ _, b9⟩
  obtain ⟨vl, vh, a1, n1, c1, a2, n2, c2, a3, n3, c3⟩ := v
  unfold SV.val
  obtain ⟨hrp, mm, hbr⟩ := HF.out.ok r hr h1
  have HR := Lib.hid hr
  have H1 := Lib.hid h1
  have HBR := Lib.hid hbr
  replace V := Lib.hid (b1.box V.out (by omega))
  replace A := Lib.hid (b1.box A.out (by omega))
  replace E := Lib.hid (b1.box E.out (by omega))
  have B1 : Below w.heap.size w w1 := b1.after B B.size (fun k hk => by omega)
  have RD := Lib.hid rd
  have X1' := Lib.hid X1
  have hz1 := b1.size
  clear hr h1 b1 X B rd hbr X1
  go_upto_region 6 with (refine wpList_store_box (cells := #[.bool vl, .bool vh, .slice a1 n1 c1, .slice a2 n2 c2, .slice a3 n3 c3]) rfl 26 _ _ rfl V.out (by rfl) (by rfl) rfl (by kernel_rfl) (by simp [Value.oneCell']) ?_; intro u5 V5 st5)
  have b5 : But (fun k => k = w.heap.size) w1 u5 := But.ofStored st5 (st5.below 0 w1 (Nat.zero_le _) (Below.refl _ _))
  replace A := Lib.hid (b5.box A.out (by omega))
  replace E := Lib.hid (b5.box E.out (by omega))
  have X5 := Lib.hid (b5.box X1'.out (by omega))
  have RD5 := Lib.hid (RD.out.but b5 (fun k hk => by omega))
  have B5 : Below w.heap.size w u5 := b5.after B1 B1.size (fun k hk => by omega)
  have V5' := Lib.hid V5
  have hz5 := b5.size
  clear b5 st5 V V5 X1' B1 RD
  go_wp2_with fail
  refine (endedN_any g s r.p r.n u5 X5.out (by omega) hrp).mono ?_
  rintro e w6 ⟨b6, ⟨h6, rfl⟩ | ⟨h6, rfl⟩⟩
  · have V1 := b6.box V5'.out (by omega)
    have A1 := b6.box A.out (by omega)
    have E1 := b6.box E.out (by omega)
    have B1 : Below w.heap.size w w6 := b6.after B5 B5.size (fun k hk => by omega)
    have H6 := Lib.hid h6
    clear b6 h6
    unfold FaultN
    obtain ⟨q, hq⟩ : ∃ q, q = skipN s.data.toList r.p := ⟨_, rfl⟩
    have HQ := Lib.hid hq
    rw [← hq]
    rw [← hq] at H6
    clear hq
    refine leaves_cons (f := 21) (args := #[.pointer (some ⟨w.heap.size, 0, none⟩), .pointer (some ⟨w.heap.size + 1, 0, none⟩), .pointer (some ⟨w.heap.size + 1 + 1, 0, none⟩)]) (by simp) (by simp [go_sem]) ?_
    refine (rd1_fault w.heap.size (w.heap.size + 1) (w.heap.size + 1 + 1) q 5 [] w6 _ V1 rfl 0 0 A1 E1 (by omega) (by omega) (by omega)).mono ?_
    rintro e u' z2 ⟨rfl, rfl, V9, A9, E9, b2⟩
    have b9 : Below w.heap.size w z2 := b2.after B1 (B1).size (fun k hk => by omega)
    have cc0 : z2.cell? ⟨w.heap.size, 0, none⟩ = some (.bool false) := V9.cell 0 rfl
    have cc1 : z2.cell? ⟨w.heap.size, 1, none⟩ = some (.bool false) := V9.cell 1 rfl
    have cc2 : z2.cell? ⟨w.heap.size, 2, none⟩ = some (.slice none 0 0) := V9.cell 2 rfl
    have cc3 : z2.cell? ⟨w.heap.size, 3, none⟩ = some (.slice none 0 0) := V9.cell 3 rfl
    have cc4 : z2.cell? ⟨w.heap.size, 4, none⟩ = some (.slice none 0 0) := V9.cell 4 rfl
    have ca : z2.cell? ⟨w.heap.size + 1, 0, none⟩ = some (.int .i64 q) := A9.cell 0 rfl
    have ce : z2.cell? ⟨w.heap.size + 1 + 1, 0, none⟩ = some (.int .i64 5) := E9.cell 0 rfl
    simp [Leaves, settle, results, Tryz.results10, go_sem, cc0, cc1, cc2, cc3, cc4, ca, ce]
    exact ⟨SV.nil, Sx.nil, q, 5, .inr ⟨by rw [HL.out]; omega, r, HR.out, .inr (.inl ⟨H1.out, by rw [← HQ.out, HL.out]; exact H6.out, rfl, HQ.out, rfl⟩)⟩, rfl, rd_nil _ _, b9⟩
  replace A := Lib.hid (b6.box A.out (by omega))
  replace E := Lib.hid (b6.box E.out (by omega))
  have V6 := Lib.hid (b6.box V5'.out (by omega))
  have RD6 := Lib.hid (RD5.out.but b6 (fun k hk => by omega))
  have B6 : Below w.heap.size w w6 := b6.after B5 B5.size (fun k hk => by omega)
  have H6 := Lib.hid h6
  have hz6 := b6.size
  clear b6 h6 V5' RD5 B5 X5
  go_wp2_with (refine wpList_load_box rfl 26 _ rfl V6.out (by rfl) Tryz.underlying26 rfl (by kernel_rfl) ?_)
  refine (mayB_any r.v ⟨vl, vh, a1, n1, c1, a2, n2, c2, a3, n3, c3⟩ w6 (RD6.out.mono (fun k hk => trivial)) mm HBR.out (HT.out.after B6)).mono ?_
  rintro e w7 ⟨rfl, b7⟩
  replace A := Lib.hid (A.out.after b7)
  replace E := Lib.hid (E.out.after b7)
  have V7 := Lib.hid (V6.out.after b7)
  have RD7 := Lib.hid (RD6.out.after b7)
  have B7 := B6.trans (b7.mono B6.size)
  have hz7 := b7.size
  clear b7 V6 RD6 B6
  cases hmy : r.v.may with
  | false =>
    have HM := Lib.hid hmy
    clear hmy
    go_wp2_with fail
    refine (wrong_any s.size 4 w7).mono ?_
    rintro e z1 ⟨rfl, rfl⟩
    unfold FaultN
    refine leaves_cons (f := 21) (args := #[.pointer (some ⟨w.heap.size, 0, none⟩), .pointer (some ⟨w.heap.size + 1, 0, none⟩), .pointer (some ⟨w.heap.size + 1 + 1, 0, none⟩)]) (by simp) (by simp [go_sem]) ?_
    refine (rd1_fault w.heap.size (w.heap.size + 1) (w.heap.size + 1 + 1) s.size 4 [] z1 _ V7.out rfl 0 0 A.out E.out (by omega) (by omega) (by omega)).mono ?_
    rintro e u' z2 ⟨rfl, rfl, V9, A9, E9, b2⟩
    have b9 : Below w.heap.size w z2 := b2.after B7 (B7).size (fun k hk => by omega)
    have cc0 : z2.cell? ⟨w.heap.size, 0, none⟩ = some (.bool false) := V9.cell 0 rfl
    have cc1 : z2.cell? ⟨w.heap.size, 1, none⟩ = some (.bool false) := V9.cell 1 rfl
    have cc2 : z2.cell? ⟨w.heap.size, 2, none⟩ = some (.slice none 0 0) := V9.cell 2 rfl
    have cc3 : z2.cell? ⟨w.heap.size, 3, none⟩ = some (.slice none 0 0) := V9.cell 3 rfl
    have cc4 : z2.cell? ⟨w.heap.size, 4, none⟩ = some (.slice none 0 0) := V9.cell 4 rfl
    have ca : z2.cell? ⟨w.heap.size + 1, 0, none⟩ = some (.int .i64 s.size) := A9.cell 0 rfl
    have ce : z2.cell? ⟨w.heap.size + 1 + 1, 0, none⟩ = some (.int .i64 4) := E9.cell 0 rfl
    simp [Leaves, settle, results, Tryz.results10, go_sem, cc0, cc1, cc2, cc3, cc4, ca, ce]
    exact ⟨SV.nil, Sx.nil, s.size, 4, .inr ⟨by rw [HL.out]; omega, r, HR.out, .inr (.inr (.inl ⟨H1.out, by rw [HL.out]; exact H6.out, HM.out, rfl, HL.out.symm, rfl⟩))⟩, rfl, rd_nil _ _, b9⟩
  | true =>
    have HM := Lib.hid hmy
    clear hmy
    go_wp2_with first | (refine wpList_load_box rfl 26 _ rfl V7.out (by rfl) Tryz.underlying26 rfl (by kernel_rfl) ?_) | (refine wpList_store_box (cells := #[.bool vl, .bool vh, .slice a1 n1 c1, .slice a2 n2 c2, .slice a3 n3 c3]) rfl 26 _ _ rfl V7.out (by rfl) (by rfl) rfl (by kernel_rfl) (by simp [Value.oneCell']) ?_; intro u9 X9 st9; have a9 := (st9.box A.out (by omega)).cell 0 rfl; have fa9 := (st9.box A.out (by omega)).frozen 0; have e9 := (st9.box E.out (by omega)).cell 0 rfl; have fe9 := (st9.box E.out (by omega)).frozen 0)
    have b59 : But (fun k => k = w.heap.size ∨ k = w.heap.size + 1 ∨ k = w.heap.size + 1 + 1) w7 ((u9.setCell ⟨w.heap.size + 1, 0, none⟩ (.int .i64 0)).setCell ⟨w.heap.size + 1 + 1, 0, none⟩ (.int .i64 0)) := (((But.ofStored st9 (st9.below 0 w7 (Nat.zero_le _) (Below.refl _ _))).mono (fun k hk => .inl hk)).setCell (p := ⟨w.heap.size + 1, 0, none⟩) (.inl (.inr (.inl rfl))) _).setCell (p := ⟨w.heap.size + 1 + 1, 0, none⟩) (.inl (.inr (.inr rfl))) _
    have V9 := (X9.far ⟨w.heap.size + 1, 0, none⟩ (.int .i64 0) (by show w.heap.size ≠ w.heap.size + 1; omega)).far ⟨w.heap.size + 1 + 1, 0, none⟩ (.int .i64 0) (by show w.heap.size ≠ w.heap.size + 1 + 1; omega)
    have A9 : Box ((u9.setCell ⟨w.heap.size + 1, 0, none⟩ (.int .i64 0)).setCell ⟨w.heap.size + 1 + 1, 0, none⟩ (.int .i64 0)) (w.heap.size + 1) 3 #[.int .i64 0] := ((st9.box A.out (by omega)).set 0 (.int .i64 0)).far ⟨w.heap.size + 1 + 1, 0, none⟩ (.int .i64 0) (by show w.heap.size + 1 ≠ w.heap.size + 1 + 1; omega)
    have E9 : Box ((u9.setCell ⟨w.heap.size + 1, 0, none⟩ (.int .i64 0)).setCell ⟨w.heap.size + 1 + 1, 0, none⟩ (.int .i64 0)) (w.heap.size + 1 + 1) 27 #[.int .i64 0] := ((st9.box E.out (by omega)).far ⟨w.heap.size + 1, 0, none⟩ (.int .i64 0) (by show w.heap.size + 1 + 1 ≠ w.heap.size + 1; omega)).set 0 (.int .i64 0)
    generalize ((u9.setCell ⟨w.heap.size + 1, 0, none⟩ (.int .i64 0)).setCell ⟨w.heap.size + 1 + 1, 0, none⟩ (.int .i64 0)) = u8 at *
    have b9 : Below w.heap.size w u8 := b59.after B7 B7.size (fun k hk => by omega)
    have RD9 : RdI (fun k => w.heap.size ≤ k) u8 ⟨vl, vh, a1, n1, c1, a2, n2, c2, a3, n3, c3⟩ r.v := (RD7.out.but b59 (fun k hk e => by omega)).mono (fun k hk => by omega)
    have cc0 : u8.cell? ⟨w.heap.size, 0, none⟩ = some (.bool vl) := V9.cell 0 rfl
    have cc1 : u8.cell? ⟨w.heap.size, 1, none⟩ = some (.bool vh) := V9.cell 1 rfl
    have cc2 : u8.cell? ⟨w.heap.size, 2, none⟩ = some (.slice a1 n1 c1) := V9.cell 2 rfl
    have cc3 : u8.cell? ⟨w.heap.size, 3, none⟩ = some (.slice a2 n2 c2) := V9.cell 3 rfl
    have cc4 : u8.cell? ⟨w.heap.size, 4, none⟩ = some (.slice a3 n3 c3) := V9.cell 4 rfl
    have ca : u8.cell? ⟨w.heap.size + 1, 0, none⟩ = some (.int .i64 0) := A9.cell 0 rfl
    have ce : u8.cell? ⟨w.heap.size + 1 + 1, 0, none⟩ = some (.int .i64 0) := E9.cell 0 rfl
    refine leaves_cons (f := 21) (args := #[.pointer (some ⟨w.heap.size, 0, none⟩), .pointer (some ⟨w.heap.size + 1, 0, none⟩), .pointer (some ⟨w.heap.size + 1 + 1, 0, none⟩)]) (by simp) (by simp [go_sem]) ?_
    refine (rd1_idle _ _ _ _).mono ?_
    rintro e u' w'' ⟨rfl, rfl, rfl⟩
    simp [Leaves, settle, results, Tryz.results10, go_sem, cc0, cc1, cc2, cc3, cc4, ca, ce]
    exact ⟨⟨vl, vh, a1, n1, c1, a2, n2, c2, a3, n3, c3⟩, r.v, 0, 0, .inr ⟨by rw [HL.out]; omega, r, HR.out, .inr (.inr (.inr ⟨H1.out, by rw [HL.out]; exact H6.out, HM.out, rfl, rfl, rfl⟩))⟩, rfl, RD9, b9⟩

set_option maxHeartbeats 4000000 in
set_option maxRecDepth 100000 in
theorem read1_any (g : Nat) (s : ByteArray) (w : World) (hs : s.size ≤ 100000) (hX : Box w g 59 (RdN s 0 0)) : Calls Tryz.prog 16 #[.pointer (some ⟨g, 0, none⟩)] w (ValN (Nt s.data.toList none 0 1 0) g s w) := by
  have hgw := hX.lt
  have B0 : Below w.heap.size w (w.alloc (.cells #[.bool false, .bool false, .slice none 0 0, .slice none 0 0, .slice none 0 0] 26)) := (Below.refl _ _).alloc (Nat.le_refl _) _
  have R := Lib.hid (Box.new w 26 #[.bool false, .bool false, .slice none 0 0, .slice none 0 0, .slice none 0 0])
  have X := Lib.hid (hX.after B0)
  have hz : w.heap.size < ((w.alloc (.cells #[.bool false, .bool false, .slice none 0 0, .slice none 0 0, .slice none 0 0] 26))).heap.size := R.out.lt
  have U : Hid (But (fun k => k = g) w (w.alloc (.cells #[.bool false, .bool false, .slice none 0 0, .slice none 0 0, .slice none 0 0] 26))) := Lib.hid (But.ofBelow B0)
  clear hX B0
  go_enter Tryz.func16, Tryz.ntmps16
  go_upto_region 1 with fail
  change Code.wp _ _ _ _ (w.alloc (.cells #[.bool false, .bool false, .slice none 0 0, .slice none 0 0, .slice none 0 0] 26))
  generalize (w.alloc (.cells #[.bool false, .bool false, .slice none 0 0, .slice none 0 0, .slice none 0 0] 26)) = u0 at *
  go_wp2_with fail
  refine (valueN_any g s 0 0 1 u0 X.out hs (by omega) (by omega) (by omega)).mono ?_
  rintro e w1 ⟨b1, r, hr, ⟨h1, rfl⟩ | ⟨h1, v, rfl, rd, X1⟩⟩
  · have HR := Lib.hid hr
    have H1 := Lib.hid h1
    have HB := Lib.hid (U.out.trans b1 (fun k hk => .inl hk))
    clear hr h1 b1
    unfold FaultN
    go_wp2_with fail
    exact ⟨rfl, HB.out, r, HR.out, .inl ⟨H1.out, rfl⟩⟩
  · have HR := Lib.hid hr
    have H1 := Lib.hid h1
    have HB := Lib.hid (U.out.trans b1 (fun k hk => .inl hk))
    have HRD := Lib.hid rd
    have HX1 := Lib.hid X1
    replace R := Lib.hid (b1.box R.out (by omega))
    have hz1 := b1.size
    clear hr h1 b1 rd X1
    obtain ⟨vl, vh, a1, n1, c1, a2, n2, c2, a3, n3, c3⟩ := v
    unfold SV.val
    go_wp2_with (refine wpList_store_box (cells := #[.bool vl, .bool vh, .slice a1 n1 c1, .slice a2 n2 c2, .slice a3 n3 c3]) rfl 26 _ _ rfl R.out (by rfl) (by rfl) rfl (by kernel_rfl) (by simp [Value.oneCell']) ?_; intro u9 X9 st9)
    have b9 : But (fun k => k = w.heap.size) w1 u9 := But.ofStored st9 (st9.below 0 w1 (Nat.zero_le _) (Below.refl _ _))
    exact bodyPost_ret (v := .agg #[.bool vl, .bool vh, .slice a1 n1 c1, .slice a2 n2 c2, .slice a3 n3 c3]) (box_result rfl _ _ (by rfl) X9 Tryz.underlying26 rfl (by kernel_rfl)) rfl ⟨HB.out.trans b9 (fun k hk => .inr (by omega)), r, HR.out, .inr ⟨H1.out, ⟨vl, vh, a1, n1, c1, a2, n2, c2, a3, n3, c3⟩, rfl, (HRD.out.but b9 (fun k hk e => by omega)).mono (fun k hk => by omega), b9.box HX1.out (by omega)⟩⟩
set_option maxRecDepth 100000 in
theorem read_reads (s : ByteArray) (hs : s.size ≤ 16384) : Reads 16 (Nt s.data.toList none 0 1 0) s :=
  ⟨fun _ _ => rfl, fun g w hX _ => read1_any g s w (by omega) hX, fun r hr he => ⟨by have := (Nt_place hr he (Nat.zero_le _)).2.1; simpa using this, 1, (Nt_ok hr (by simp; omega) he (by decide) (by decide) (Nat.zero_le _)).1⟩⟩

set_option maxHeartbeats 4000000 in
set_option maxRecDepth 100000 in
theorem readN_any (s : ByteArray) (w : World) (ht : Tab w) : Calls Tryz.prog 8 #[.string s] w (ReadP (Nt s.data.toList none 0 1 0) s.data.toList w) := by
  have R := Lib.hid (Box.new w 26 #[.bool false, .bool false, .slice none 0 0, .slice none 0 0, .slice none 0 0])
  have B0 : Below w.heap.size w (w.alloc (.cells #[.bool false, .bool false, .slice none 0 0, .slice none 0 0, .slice none 0 0] 26)) := (Below.refl _ _).alloc (Nat.le_refl _) _
  have CA := Lib.hid (fun w' h => reads_any 16 (Nt s.data.toList none 0 1 0) s (read_reads s) w' h)
  have HT := Lib.hid (ht.after B0)
  clear ht
  go_enter Tryz.func8, Tryz.ntmps8
  go_upto_region 1 with fail
  change Code.wp _ _ _ _ (w.alloc (.cells #[.bool false, .bool false, .slice none 0 0, .slice none 0 0, .slice none 0 0] 26))
  generalize (w.alloc (.cells #[.bool false, .bool false, .slice none 0 0, .slice none 0 0, .slice none 0 0] 26)) = u0 at *
  go_wp2_with fail
  refine (CA.out u0 HT.out).mono ?_
  rintro e w1 ⟨v, sx, p, x, hg, rfl, rd, b1⟩
  obtain ⟨vl, vh, a1, n1, c1, a2, n2, c2, a3, n3, c3⟩ := v
  have HG := Lib.hid hg
  have HRD := Lib.hid rd
  have hz0 := B0.size
  have hz1 := R.out.lt
  replace R := Lib.hid (R.out.after b1)
  have B1 := B0.trans (b1.mono hz0)
  clear hg rd b1
  go_wp2_with (refine wpList_store_box (cells := #[.bool vl, .bool vh, .slice a1 n1 c1, .slice a2 n2 c2, .slice a3 n3 c3]) rfl 26 _ _ rfl R.out (by rfl) (by rfl) rfl (by kernel_rfl) (by simp [Value.oneCell']) ?_; intro u9 X9 st9)
  have b9 : But (fun k => k = w.heap.size) w1 u9 := But.ofStored st9 (st9.below 0 w1 (Nat.zero_le _) (Below.refl _ _))
  exact bodyPost_ret (v := .tuple #[.agg #[.bool vl, .bool vh, .slice a1 n1 c1, .slice a2 n2 c2, .slice a3 n3 c3], .int .i64 p, .int .i64 x]) (box_result22 (p := 2) (q := 3) (r := 4) rfl _ _ (by rfl) X9 Tryz.underlying26 rfl (by kernel_rfl)) rfl ⟨⟨vl, vh, a1, n1, c1, a2, n2, c2, a3, n3, c3⟩, sx, p, x, HG.out, rfl, (HRD.out.but b9 (fun k hk e => by omega)).mono (fun k hk => by omega), b9.after B1 B1.size (fun k hk => by omega)⟩

end Go.Proofs.YtkbblhioncecmaaGreatDoor
namespace Go.Proofs.YtkbblhioncecmaaGreatDoor
open Go.RowKit
set_option linter.unusedVariables false
set_option linter.unusedSimpArgs false

theorem token1_any (c : UInt8) (w : World) : Calls Tryz.prog 78 #[.int .u8 (c.toNat : Int)] w fun e w' => e = .returned (.bool (!signB c)) ∧ w' = w := by
  have h1 := isIn_sign ⟨c.toNat, c.toNat_lt⟩
  rw [byte_fin] at h1
  have H1 := Lib.hid h1
  clear h1
  go_enter Tryz.func78, Tryz.ntmps78
  go_wp2_with fail
  refine (is_any _ c _).mono ?_
  rintro e w1 ⟨rfl, rfl⟩
  generalize hb : isIn _ c = bb
  obtain rfl : bb = signB c := hb.symm.trans H1.out
  clear hb H1
  go_wp2_with fail
  go_ret
  exact ⟨rfl, rfl⟩
def seenB (c : UInt8) : Bool := decide (c.toNat < 32) || decide (126 < c.toNat)
theorem plain1_any (c : UInt8) (w : World) : Calls Tryz.prog 63 #[.int .u8 (c.toNat : Int)] w fun e w' => e = .returned (.bool (seenB c)) ∧ w' = w := by
  unfold seenB
  generalize c.toNat = n
  go_enter Tryz.func63, Tryz.ntmps63
  by_cases h1 : n < 32
  · have h1i : (n : Int) < 32 := by omega
    go_wp2_with fail
    go_ret
    exact ⟨by simp [h1], rfl⟩
  · have h1i : ¬ (n : Int) < 32 := by omega
    have h2i : (32 : Int) ≤ n := by omega
    by_cases h2 : 126 < n
    · have h3i : (126 : Int) < n := by omega
      go_wp2_with fail
      go_ret
      exact ⟨by simp [h1, h2], rfl⟩
    · have h3i : ¬ (126 : Int) < n := by omega
      have h4i : (n : Int) ≤ 126 := by omega
      go_wp2_with fail
      go_ret
      exact ⟨by simp [h1, h2], rfl⟩

/-- a test of a byte, as a function -/
structure Tests (F : FuncId) (g : UInt8 → Bool) : Prop where
  enter : ∀ (args : Array Value) (w : World), (callFunc F args).run Tryz.prog w = .ok (.enter F args) w
  run : ∀ (c : UInt8) (w : World), Calls Tryz.prog F #[.int .u8 (c.toNat : Int)] w fun e w' => e = .returned (.bool (g c)) ∧ w' = w
set_option maxRecDepth 100000 in
theorem token1_tests : Tests 78 (fun c => !signB c) := ⟨fun _ _ => rfl, token1_any⟩
set_option maxRecDepth 100000 in
theorem plain1_tests : Tests 63 seenB := ⟨fun _ _ => rfl, plain1_any⟩

set_option maxHeartbeats 4000000 in
set_option maxRecDepth 100000 in
theorem indexFunc_any (F : FuncId) (g : UInt8 → Bool) (hF : Tests F g) (a : Option Addr) (n c : Nat) (l : List UInt8) (w : World) (hs : Sl w a n c l) :
    Calls Tryz.prog 79 #[.slice a n c, .func (.func F) #[] #[]] w fun e w' => (∃ r : Int, e = .returned (.int .i64 r) ∧ decide (0 ≤ r) = l.any g) ∧ w' = w := by
  have HS := Lib.hid hs
  have HL := Lib.hid hs.1
  have hn : (n : Int) ≤ 9223372036854775807 := by have h2 := hs.2.1; have h3 := hs.2.2.1; unfold maxLen at h3; omega
  have HE := Lib.hid hF.enter
  have HR := Lib.hid hF.run
  clear hs hF
  go_enter Tryz.func79, Tryz.ntmps79
  go_wp2_with fail
  go_loopw [8] (fun i wr => ∃ k : Nat, k ≤ n ∧ i = .int .i64 k ∧ Hid ((l.take k).any g = false) ∧ wr = w) (fun i _ => n - (intOf i).toNat)
  case atStart => exact ⟨0, Nat.zero_le _, rfl, Lib.hid rfl, rfl⟩
  case round =>
    obtain ⟨k, hk, rfl, hno, rfl⟩ := hrel
    by_cases hlt : k < n
    case neg =>
      have hki : ¬ (k : Int) < n := by omega
      go_wp2_with fail
      go_ret
      exact ⟨⟨-1, rfl, by have h := hno.out; rw [List.take_of_length_le (by have := HL.out; omega)] at h; rw [h]; rfl⟩, rfl⟩
    case pos =>
      have hki : (k : Int) < n := by omega
      have hkl : k < l.length := by have := HL.out; omega
      obtain ⟨b, o, rfl, hcell⟩ : ∃ b o, a = some ⟨b, o, none⟩ ∧ wr.cell? ⟨b, o + k, none⟩ = some (.int .u8 ((l[k]'hkl).toNat : Int)) := by
        rcases HS.out.2.2.2.2 with h | ⟨b, o, h1, h2⟩
        · omega
        · refine ⟨b, o, h1, ?_⟩
          have := h2 k hlt
          rwa [List.getD, List.getElem?_eq_getElem hkl] at this
      have HSN : Hid ((l.take (k + 1)).any g = g (l[k]'hkl)) := Lib.hid (by rw [List.take_add_one, List.any_append, hno.out, List.getElem?_eq_getElem hkl]; simp)
      have HAN : Hid (g (l[k]'hkl) = true → l.any g = true) := Lib.hid (fun h => List.any_eq_true.2 ⟨_, List.getElem_mem hkl, h⟩)
      generalize (l[k]'hkl) = x at *
      have hk0 : (0 : Int) ≤ k := by omega
      go_wp2_with fail
      rw [HE.out]
      refine (HR.out x wr).mono ?_
      rintro e w1 ⟨rfl, rfl⟩
      generalize hgx : g x = gx at *
      cases gx with
      | true =>
        go_wp2_with fail
        go_ret
        exact ⟨⟨k, rfl, by rw [HAN.out (by trivial)]; simp⟩, rfl⟩
      | false =>
        go_wp2_with fail
        go_roundw
        case rel => exact ⟨k + 1, by omega, by go_num, HSN, by trivial⟩
        case measure => simp [intOf] <;> omega
theorem containsFunc_any (F : FuncId) (g : UInt8 → Bool) (hF : Tests F g) (a : Option Addr) (n c : Nat) (l : List UInt8) (w : World) (hs : Sl w a n c l) :
    Calls Tryz.prog 62 #[.slice a n c, .func (.func F) #[] #[]] w fun e w' => e = .returned (.bool (l.any g)) ∧ w' = w := by
  have HI := Lib.hid (indexFunc_any F g hF a n c l w hs)
  clear hs
  go_enter Tryz.func62, Tryz.ntmps62
  go_wp2_with fail
  refine HI.out.mono ?_
  rintro e w1 ⟨⟨r, rfl, hr⟩, rfl⟩
  have HR := Lib.hid hr
  clear hr
  go_wp2_with fail
  go_ret
  exact ⟨by rw [← HR.out]; rfl, rfl⟩
/-! what is printed -/
def tokB (l : List UInt8) : Bool := decide (0 < l.length) && (!numB (l.getD 0 0) && !l.any (fun c => !signB c))
def quoteC (c : UInt8) : List UInt8 := if c = 34 ∨ c = 92 then [92, c] else [c]
def quoteL (l : List UInt8) : List UInt8 := [34] ++ l.flatMap quoteC ++ [34]
set_option maxHeartbeats 4000000 in
set_option maxRecDepth 100000 in
theorem token_any (a : Option Addr) (n c : Nat) (l : List UInt8) (w : World) (hs : Sl w a n c l) :
    Calls Tryz.prog 60 #[.slice a n c] w fun e w' => e = .returned (.bool (tokB l)) ∧ w' = w := by
  have HC := Lib.hid (containsFunc_any 78 _ token1_tests a n c l w hs)
  have hn : (n : Int) ≤ 9223372036854775807 := by have h2 := hs.2.1; have h3 := hs.2.2.1; unfold maxLen at h3; omega
  by_cases h0 : 0 < n
  · have h0i : (0 : Int) < n := by omega
    have hl0 : 0 < l.length := by have := hs.1; omega
    have HT : Hid (tokB l = (!numB (l.getD 0 0) && !l.any (fun c => !signB c))) := Lib.hid (by unfold tokB; rw [decide_eq_true hl0]; rfl)
    obtain ⟨b, o, rfl, hcell⟩ : ∃ b o, a = some ⟨b, o, none⟩ ∧ w.cell? ⟨b, o, none⟩ = some (.int .u8 ((l.getD 0 0).toNat : Int)) := by
      rcases hs.2.2.2.2 with h | ⟨b, o, h1, h2⟩
      · omega
      · exact ⟨b, o, h1, h2 0 h0⟩
    clear hs
    generalize l.getD 0 0 = x at *
    have h1 := isIn_num ⟨x.toNat, x.toNat_lt⟩
    rw [byte_fin] at h1
    have H1 := Lib.hid h1
    clear h1
    generalize l.any (fun c => !signB c) = q at *
    go_enter Tryz.func60, Tryz.ntmps60
    go_wp2_with fail
    refine (is_any _ x _).mono ?_
    rintro e w1 ⟨rfl, rfl⟩
    generalize hb : isIn _ x = bb
    obtain rfl : bb = numB x := hb.symm.trans H1.out
    clear hb H1
    generalize numB x = r at *
    cases r with
    | true =>
      go_wp2_with fail
      go_ret
      exact ⟨by rw [HT.out]; rfl, rfl⟩
    | false =>
      go_wp2_with fail
      refine HC.out.mono ?_
      rintro e w2 ⟨rfl, rfl⟩
      go_wp2_with fail
      go_ret
      exact ⟨by rw [HT.out]; cases q <;> rfl, rfl⟩
  · have h0i : ¬ (0 : Int) < n := by omega
    have HT : Hid (tokB l = false) := Lib.hid (by unfold tokB; rw [decide_eq_false (by have := hs.1; omega)]; rfl)
    clear hs HC
    go_enter Tryz.func60, Tryz.ntmps60
    go_wp2_with fail
    go_ret
    exact ⟨by rw [HT.out]; rfl, rfl⟩
end Go.Proofs.YtkbblhioncecmaaGreatDoor
namespace Go.Proofs.YtkbblhioncecmaaGreatDoor
open Go.RowKit
set_option linter.unusedVariables false
set_option linter.unusedSimpArgs false

theorem quote_snoc (l : List UInt8) (k : Nat) (h : k < l.length) : (l.take (k + 1)).flatMap quoteC = (l.take k).flatMap quoteC ++ quoteC (l[k]'h) := by
  rw [List.take_add_one, List.flatMap_append, List.getElem?_eq_getElem h]
  simp
theorem quote_len (l : List UInt8) : (l.flatMap quoteC).length ≤ 2 * l.length := by
  induction l with
  | nil => simp
  | cons c r ih =>
    rw [List.flatMap_cons, List.length_append, List.length_cons]
    have : (quoteC c).length ≤ 2 := by unfold quoteC; split <;> simp
    omega
end Go.Proofs.YtkbblhioncecmaaGreatDoor
namespace Go.Proofs.YtkbblhioncecmaaGreatDoor
open Go.RowKit
set_option linter.unusedVariables false
set_option linter.unusedSimpArgs false

def plainL (l : List UInt8) : List UInt8 := if tokB l then l else if l.any seenB then (if l.length ≤ 16 then [35] ++ hexL l ++ [35] else [124] ++ b64 l ++ [124]) else quoteL l
end Go.Proofs.YtkbblhioncecmaaGreatDoor
namespace Go.Proofs.YtkbblhioncecmaaGreatDoor
open Go.RowKit
set_option linter.unusedVariables false
set_option linter.unusedSimpArgs false

mutual
/-- a value's advanced form -/
def Sx.adv : Sx → List UInt8
  | .mk l h hi da ks => if l then [40] ++ Sx.advL ks ++ [41] else (if h then [91] ++ plainL hi ++ [93] else []) ++ plainL da
/-- values, parted by blanks -/
def Sx.advL : List Sx → List UInt8
  | [] => []
  | k :: r => k.adv ++ Sx.advR r
/-- further values, a blank ahead of each -/
def Sx.advR : List Sx → List UInt8
  | [] => []
  | k :: r => [32] ++ k.adv ++ Sx.advR r
end
theorem Sx.advR_append (a b : List Sx) : Sx.advR (a ++ b) = Sx.advR a ++ Sx.advR b := by
  induction a with
  | nil => rfl
  | cons k a ih => simp only [List.cons_append, Sx.advR, ih, List.append_assoc]
theorem Sx.advL_snoc (ks : List Sx) (k : Nat) (h : k < ks.length) : Sx.advL (ks.take (k + 1)) = Sx.advL (ks.take k) ++ (if 0 < k then [32] else []) ++ (ks[k]'h).adv := by
  cases ks with
  | nil => cases h
  | cons x r =>
    cases k with
    | zero => simp [Sx.advL, Sx.advR]
    | succ k =>
      have h' : k < r.length := by simpa using h
      rw [List.take_succ_cons, List.take_succ_cons]
      simp only [Sx.advL, List.getElem_cons_succ]
      rw [List.take_add_one, List.getElem?_eq_getElem h', Sx.advR_append]
      simp [Sx.advR]
theorem plainL_len (l : List UInt8) : (plainL l).length ≤ 2 * l.length + 6 := by
  have h1 := quote_len l
  have h2 := hexL_len l
  have h3 := b64_len l
  unfold plainL
  split
  · omega
  · split
    · split
      · simp only [List.length_append, List.length_cons, List.length_nil]; omega
      · simp only [List.length_append, List.length_cons, List.length_nil]; omega
    · unfold quoteL
      simp only [List.length_append, List.length_cons, List.length_nil]
      omega
theorem textL_ge (l : List UInt8) : l.length + 1 ≤ (textL l).length := by
  unfold textL
  simp only [List.length_append, List.length_cons]
  omega
theorem advR_len : ∀ (ks : List Sx), (∀ k ∈ ks, k.adv.length + 1 ≤ 8 * k.form.length) → (Sx.advR ks).length ≤ 8 * (Sx.formL ks).length
  | [], _ => by simp [Sx.advR]
  | k :: r, h => by
    have h1 := h k (List.mem_cons_self ..)
    have h2 := advR_len r (fun x hx => h x (List.mem_cons_of_mem _ hx))
    simp only [Sx.advR, Sx.formL, List.length_append, List.length_cons, List.length_nil]
    omega
theorem advL_len (ks : List Sx) (h : ∀ k ∈ ks, k.adv.length + 1 ≤ 8 * k.form.length) : (Sx.advL ks).length ≤ 8 * (Sx.formL ks).length := by
  cases ks with
  | nil => simp [Sx.advL]
  | cons k r =>
    have h1 := h k (List.mem_cons_self ..)
    have h2 := advR_len r (fun x hx => h x (List.mem_cons_of_mem _ hx))
    simp only [Sx.advL, Sx.formL, List.length_append]
    omega
theorem adv_len (s : Sx) : s.adv.length + 1 ≤ 8 * s.form.length := by
  induction s using Sx.ind with
  | h l hh hi da ks ih =>
    unfold Sx.adv Sx.form
    cases l with
    | true =>
      have := advL_len ks ih
      simp only [if_true, List.length_append, List.length_cons, List.length_nil]
      omega
    | false =>
      have h1 := plainL_len hi
      have h2 := plainL_len da
      have h3 := textL_ge hi
      have h4 := textL_ge da
      cases hh with
      | true =>
        simp
        omega
      | false =>
        simp
        omega
end Go.Proofs.YtkbblhioncecmaaGreatDoor
namespace Go.Proofs.YtkbblhioncecmaaGreatDoor
open Go.RowKit
set_option linter.unusedVariables false
set_option linter.unusedSimpArgs false

/-- the row that the builder at b owns lies in block g -/
def OwnOf (w : World) (b g : Nat) : Prop := ∃ p v T z, w.heap[b]? = some (.cells #[p, v] T z) ∧ v.ownBlock = some g
/-- blocks that are neither the builder's nor its row's stay, and stay no row of it -/
def Kept (b : Nat) (w w' : World) : Prop := ∀ g, g < w.heap.size → g ≠ b → ¬ OwnOf w b g → w'.heap[g]? = w.heap[g]? ∧ ¬ OwnOf w' b g
theorem Kept.trans {b : Nat} {w1 w2 w3 : World} (h : Kept b w1 w2) (h' : Kept b w2 w3) (hz : w1.heap.size ≤ w2.heap.size) : Kept b w1 w3 := fun g hg hb ho =>
  ⟨((h' g (Nat.lt_of_lt_of_le hg hz) hb (h g hg hb ho).2).1).trans (h g hg hb ho).1, (h' g (Nat.lt_of_lt_of_le hg hz) hb (h g hg hb ho).2).2⟩
theorem Kept.box {b : Nat} {w w' : World} (h : Kept b w w') {g : Nat} {T : TypeId} {cs : Array Value} (hx : Box w g T cs) (hb : g ≠ b) (ho : ¬ OwnOf w b g) : Box w' g T cs := (h g hx.lt hb ho).1.trans hx
theorem kept_below {b : Nat} {w w' : World} (hb : b < w.heap.size) (h : Below w.heap.size w w') : Kept b w w' := fun g hg _ ho =>
  ⟨h.block g hg, fun ⟨p, v, T, z, h1, h2⟩ => ho ⟨p, v, T, z, (h.block b hb).symm.trans h1, h2⟩⟩
/-- the call's own row, from its block's head on, and as XOwnG has it -/
def OwnR (w : World) (B : Nat) (v : Value) (l : List UInt8) : Prop := w.ownsRow B 5 1 v l.length (Lib.byteCells l) ∧ OwnB w B v l
theorem owns_keep {w w' : World} {B e size n : Nat} {v : Value} {xs : List Value} (h : w.ownsRow B e size v n xs) (hk : ∀ g, v.ownBlock = some g → w'.heap[g]? = w.heap[g]?) : w'.ownsRow B e size v n xs := by
  refine ⟨h.1, ?_⟩
  rcases h.2 with h2 | ⟨g, cap, cur, rfl, hb, hg, r⟩
  · exact .inl h2
  · exact .inr ⟨g, cap, cur, rfl, hb, (hk g rfl).trans hg, r⟩
theorem OwnR.keep {w w' : World} {B : Nat} {v : Value} {l : List UInt8} (h : OwnR w B v l) (hz : w.heap.size ≤ w'.heap.size) (hk : ∀ g, v.ownBlock = some g → w'.heap[g]? = w.heap[g]?) : OwnR w' B v l :=
  ⟨owns_keep h.1 hk, OwnG.keep h.2 hz hk⟩
theorem OwnR.after {w w' : World} {B : Nat} {v : Value} {l : List UInt8} (h : OwnR w B v l) (hb : Below w.heap.size w w') : OwnR w' B v l :=
  h.keep hb.size (fun g hg => hb.block g (h.2.own g hg).2)
theorem OwnR.nil (w : World) (B : Nat) : OwnR w B (.slice none 0 0) [] := ⟨World.ownsRow_nil _ _ _ _, OwnB.nil w B⟩
theorem OwnR.own {w : World} {B : Nat} {v : Value} {l : List UInt8} (h : OwnR w B v l) : ∀ k, v.ownBlock = some k → B ≤ k ∧ k < w.heap.size := h.2.own
theorem OwnR.sl {w : World} {B : Nat} {v : Value} {l : List UInt8} (h : OwnR w B v l) : ∃ a c, v = .slice a l.length c ∧ Sl w a l.length c l := h.2.sl
/-- a slice's bytes behind the call's own, in the words of the kit's law -/
theorem run_append_slR {w : World} (B : Nat) (ty : TypeId) (i : TypeInfo) (hi : Tryz.prog.info? 5 = some i) (hz : i.zero = some (.int .u8 0)) (hsize : i.size = 1) (hby : i.bytes = 1)
    {v : Value} {n : Nat} {l : List UInt8} (hown : w.ownsRow B 5 1 v n (Lib.byteCells l)) {ax : Option Addr} {m c : Nat} {l2 : List UInt8} (hsl : Sl w ax m c l2) (hbytes : n + m ≤ 140737488355328) (hbase : B ≤ w.heap.size) :
    ∃ v' w', (Builtin.append_ #[23, 23] ty #[v, .slice ax m c]).run Tryz.prog w = .ok v' w' ∧ w'.ownsRow B 5 1 v' (n + m) (Lib.byteCells (l ++ l2)) := by
  obtain ⟨h1, h2, h3, h5, h4⟩ := hsl
  cases ax with
  | none =>
    have hc := h5 rfl
    subst hc
    obtain rfl : m = 0 := by omega
    have hl2 : l2 = [] := List.eq_nil_of_length_eq_zero h1.symm
    subst hl2
    exact ⟨v, w, run_append_owned_none (P := Tryz.prog) (w := w) B 23 ty 5 i 1 Tryz.underlying23 hi v n _ hown, by simpa using hown⟩
  | some ad =>
    obtain ⟨v', w', hr, ho, _⟩ := run_append_own w B 23 ty 5 i (.int .u8 0) 1 1 Tryz.underlying23 hi hz hsize hby rfl (by decide) v n _ hown ad m c (Lib.byteCells l2) (by simp [Lib.byteCells, h1]) (by
      intro j u hj
      rcases h4 with h4 | ⟨b, o', e', h4⟩
      · have hl2 : l2 = [] := List.eq_nil_of_length_eq_zero (by omega)
        subst hl2
        simp [Lib.byteCells] at hj
      · obtain rfl := Option.some.inj e'
        have hlt : j < l2.length := by
          rcases Nat.lt_or_ge j l2.length with h' | h'
          · exact h'
          · simp [Lib.byteCells, List.getElem?_eq_none h'] at hj
        simp [Lib.byteCells, hlt] at hj
        rw [Addr.add_lit, h4 j (by omega), ← hj]
        simp [List.getD_eq_getElem?_getD, hlt]) (by
      intro u hu
      obtain ⟨_, _, rfl⟩ := List.mem_map.1 hu
      rfl) (by unfold maxLen; omega) (by omega) hbase
    exact ⟨v', w', hr, by rw [← byteCells_append]; exact ho⟩
theorem wpList_append_R3 {w : World} {B : Nat} {v : Value} {ops : Array Oper} {rest : List Oper} {o : Oper} {a : Act} {Q : Exit → Act → World → Prop} (hgd : o.guard = none) (s x : Operand)
    (ho : o.op = .call { callee := .builtin .append, args := #[s, x], argTypes := #[23, 23] })
    {l : List UInt8} (hs : a.eval s = v) (h : OwnR w B v l) {ax : Option Addr} {m c : Nat} {l2 : List UInt8} (hx : a.eval x = .slice ax m c) (hsl : Sl w ax m c l2) (hbytes : l.length + m ≤ 140737488355328) (hB : B ≤ w.heap.size)
    (hk : ∀ v' w', OwnR w' B v' (l ++ l2) → w.grownBy w' v.ownBlock → (∀ k, v'.ownBlock = some k → v.ownBlock = some k ∨ w.heap.size ≤ k) → wpList Tryz.prog ops Q rest (a.put o.dst v') w') : wpList Tryz.prog ops Q (o :: rest) a w := by
  refine wpList_plain hgd fun _ hK => ?_
  obtain ⟨i0, hi, hi2⟩ := Option.map_eq_some_iff.1 infoU8G
  simp only [Prod.mk.injEq] at hi2
  obtain ⟨hz0, hz1, hz2⟩ := hi2
  obtain ⟨v', w', hr, h1, h2, h3⟩ := OwnG.append 23 23 o.type 5 i0 (.int .u8 0) 1 Tryz.underlying23 hi hz0 hz1 hz2 rfl (by decide) h.2 (.slice ax m c) m _ (hsl.src Tryz.underlying23) (by unfold maxLen; omega) (by omega) hB
  obtain ⟨v2, w2, hr2, ho2⟩ := run_append_slR B o.type i0 hi hz0 hz1 hz2 h.1 hsl hbytes hB
  have e := hr.symm.trans hr2
  injection e with e1 e2
  subst e1 e2
  unfold Oper.wp
  simp [execOp, ho, resolve, invoke, builtin, hs, hx, hr, Result.andThen]
  refine hK _ _ (hk v' w' ⟨?_, ?_⟩ h2 h3)
  · rw [List.length_append, ← hsl.1]
    exact ho2
  · rw [byteCells_append, hsl.1] at h1
    unfold OwnB
    rw [List.length_append]
    exact h1
theorem wpList_append_RS3 {w : World} {B : Nat} {v : Value} {ops : Array Oper} {rest : List Oper} {o : Oper} {a : Act} {Q : Exit → Act → World → Prop} (hgd : o.guard = none) (s x : Operand)
    (ho : o.op = .call { callee := .builtin .append, args := #[s, x], argTypes := #[23, 9] })
    {l : List UInt8} (hs : a.eval s = v) (h : OwnR w B v l) {l2 : List UInt8} (hx : a.eval x = .string ⟨l2.toArray⟩) (hbytes : l.length + l2.length ≤ 140737488355328) (hB : B ≤ w.heap.size)
    (hk : ∀ v' w', OwnR w' B v' (l ++ l2) → w.grownBy w' v.ownBlock → (∀ k, v'.ownBlock = some k → v.ownBlock = some k ∨ w.heap.size ≤ k) → wpList Tryz.prog ops Q rest (a.put o.dst v') w') : wpList Tryz.prog ops Q (o :: rest) a w := by
  refine wpList_plain hgd fun _ hK => ?_
  obtain ⟨i0, hi, hi2⟩ := Option.map_eq_some_iff.1 infoU8G
  simp only [Prod.mk.injEq] at hi2
  obtain ⟨hz0, hz1, hz2⟩ := hi2
  have hsz : (⟨l2.toArray⟩ : ByteArray).size = l2.length := by simp [ByteArray.size]
  have hsrc := Src.ofString (P := Tryz.prog) (w := w) Tryz.underlying9 ⟨l2.toArray⟩
  rw [hsz, show byteCells ⟨l2.toArray⟩ = Lib.byteCells l2 from rfl] at hsrc
  obtain ⟨v', w', hr, h1, h2, h3⟩ := OwnG.append 23 9 o.type 5 i0 (.int .u8 0) 1 Tryz.underlying23 hi hz0 hz1 hz2 rfl (by decide) h.2 (.string ⟨l2.toArray⟩) l2.length _ hsrc (by unfold maxLen; omega) (by omega) hB
  obtain ⟨v2, w2, hr2, ho2, _⟩ := Lib.run_append_own_string w B 23 9 o.type 5 i0 Tryz.underlying23 Tryz.underlying9 hi hz0 hz1 hz2 v _ _ h.1 ⟨l2.toArray⟩ (by rw [hsz]; unfold maxLen; omega) (by rw [hsz]; exact hbytes) hB
  have e := hr.symm.trans hr2
  injection e with e1 e2
  subst e1 e2
  unfold Oper.wp
  simp [execOp, ho, resolve, invoke, builtin, hs, hx, hr, Result.andThen]
  refine hK _ _ (hk v' w' ⟨?_, ?_⟩ h2 h3)
  · rw [hsz] at ho2
    rw [List.length_append, ← byteCells_append]
    exact ho2
  · rw [byteCells_append] at h1
    unfold OwnB
    rw [List.length_append]
    exact h1
/-- the builder at b holds the bytes l -/
def Bl (B b : Nat) (l : List UInt8) (w : World) : Prop := ∃ p v, (p = .pointer none ∨ p = .pointer (some ⟨b, 0, none⟩)) ∧ w.heap[b]? = some (.cells #[p, v] 52 (0, 0)) ∧ OwnR w B v l ∧ v.ownBlock ≠ some b ∧ B ≤ b
theorem Bl.lt {B b : Nat} {l : List UInt8} {w : World} (h : Bl B b l w) : b < w.heap.size := by
  obtain ⟨p, v, _, h, _⟩ := h
  exact Box.lt h
theorem Bl.after {B b : Nat} {l : List UInt8} {w w' : World} (h : Bl B b l w) (hb : Below w.heap.size w w') : Bl B b l w' := by
  have hlt := h.lt
  obtain ⟨p, v, h1, h2, h3, h4, h5⟩ := h
  exact ⟨p, v, h1, (hb.block b hlt).trans h2, h3.after hb, h4, h5⟩
theorem copyCheckK (B b : Nat) (l : List UInt8) (w : World) (h : Bl B b l w) :
    Calls Tryz.prog 59 #[.pointer (some ⟨b, 0, none⟩)] w fun e w' => e = .returned (.tuple #[]) ∧ (∃ v, w'.heap[b]? = some (.cells #[.pointer (some ⟨b, 0, none⟩), v] 52 (0, 0)) ∧ OwnR w' B v l ∧ v.ownBlock ≠ some b ∧ B ≤ b) ∧ Below B w w' ∧ Kept b w w' ∧ w.heap.size = w'.heap.size := by
  have hlt := h.lt
  obtain ⟨p, v, hp, h1, h2, h3, h4⟩ := h
  have hX : Box w b 52 #[p, v] := h1
  rcases hp with rfl | rfl
  · refine (copyCheck_fresh b w (hX.cell 0 rfl) (by simp [World.shape?, h1]) (hX.frozen 0)).mono ?_
    rintro e w' ⟨rfl, rfl⟩
    have hY := hX.set 0 (.pointer (some ⟨b, 0, none⟩))
    refine ⟨rfl, ⟨v, hY, ?_, h3, h4⟩, (Below.refl B w).setCell (p := ⟨b, 0, none⟩) h4 _, fun g hg hb ho => ⟨?_, fun ⟨p', v', T, z, h5, h6⟩ => ?_⟩, by simp⟩
    · exact OwnR.keep h2 (by simp) (fun g hg => heap_setCell_other _ _ _ _ (fun e => h3 (by rw [hg, e])))
    · exact heap_setCell_other _ _ _ _ (fun e => hb e)
    · have h7 := Option.some.inj (h5.symm.trans hY)
      cases h7
      exact ho ⟨_, _, _, _, h1, h6⟩
  · refine (copyCheck_used b w (hX.cell 0 rfl)).mono ?_
    rintro e w' ⟨rfl, rfl⟩
    exact ⟨rfl, ⟨v, h1, h2, h3, h4⟩, Below.refl B _, fun g hg hb ho => ⟨rfl, ho⟩, rfl⟩
/-- the row was grown and put back -/
theorem kept_put {w1 w2 : World} {b : Nat} {v v' : Value} {T : TypeId} (hbk : Box w1 b T #[.pointer (some ⟨b, 0, none⟩), v]) (hne : v.ownBlock ≠ some b) (hg : w1.grownBy w2 v.ownBlock) (hw : ∀ k, v'.ownBlock = some k → v.ownBlock = some k ∨ w1.heap.size ≤ k) :
    Box (w2.setCell ⟨b, 1, none⟩ v') b T #[.pointer (some ⟨b, 0, none⟩), v'] ∧ Kept b w1 (w2.setCell ⟨b, 1, none⟩ v') := by
  have h2 : Box w2 b T #[.pointer (some ⟨b, 0, none⟩), v] := (hg.block b hbk.lt (fun e => hne e.symm)).trans hbk
  have h3 := h2.set 1 v'
  refine ⟨h3, fun g hg1 hb ho => ⟨?_, fun ⟨p', u, T', z, h5, h6⟩ => ?_⟩⟩
  · rw [heap_setCell_other _ _ _ _ (fun e => hb e)]
    exact hg.block g hg1 (fun e => ho ⟨_, _, _, _, hbk, e.symm⟩)
  · have h7 := Option.some.inj (h5.symm.trans h3)
    cases h7
    rcases hw g h6 with h | h
    · exact ho ⟨_, _, _, _, hbk, h⟩
    · omega
end Go.Proofs.YtkbblhioncecmaaGreatDoor
namespace Go.Proofs.YtkbblhioncecmaaGreatDoor
open Go.RowKit
set_option linter.unusedVariables false
set_option linter.unusedSimpArgs false

def RetK (B b : Nat) (r : Value) (l : List UInt8) (w : World) (e : Ending) (w' : World) : Prop := e = .returned r ∧ Bl B b l w' ∧ Below B w w' ∧ Kept b w w'
theorem bl_put {B b : Nat} {l l2 : List UInt8} {w w1 wa w2 : World} {v v' : Value} (hb1 : Below B w w1) (hk1 : Kept b w w1) (hz1 : w.heap.size = w1.heap.size) (hbk : Box w1 b 52 #[.pointer (some ⟨b, 0, none⟩), v]) (hB : B ≤ b) (hBw : B ≤ w.heap.size)
    (ha : Below w1.heap.size w1 wa) (hown : OwnR wa B v l2) (hne : v.ownBlock ≠ some b) (hown' : OwnR w2 B v' l) (hg : wa.grownBy w2 v.ownBlock) (hw : ∀ k, v'.ownBlock = some k → v.ownBlock = some k ∨ wa.heap.size ≤ k) :
    Bl B b l (w2.setCell ⟨b, 1, none⟩ v') ∧ Below B w (w2.setCell ⟨b, 1, none⟩ v') ∧ Kept b w (w2.setCell ⟨b, 1, none⟩ v') := by
  have hba : Box wa b 52 #[.pointer (some ⟨b, 0, none⟩), v] := hbk.after ha
  obtain ⟨h3, h4⟩ := kept_put hba hne hg hw
  have hlt := hbk.lt
  have hne' : v'.ownBlock ≠ some b := fun e => by
    rcases hw b e with h | h
    · exact hne h
    · have := hba.lt; omega
  refine ⟨⟨_, v', .inr rfl, h3, ?_, hne', hB⟩, ?_, ?_⟩
  · exact OwnR.keep hown' (by simp) (fun g hg => heap_setCell_other _ _ _ _ (fun e => hne' (by rw [hg, e])))
  · exact ((hb1.trans (ha.mono (by omega))).grown hg (by have := ha.size; omega) (fun k hk => (hown.own k hk).1)).setCell (p := ⟨b, 1, none⟩) hB _
  · exact (hk1.trans (kept_below hlt ha) (by omega)).trans h4 (by have := ha.size; omega)

set_option maxHeartbeats 2000000 in
set_option maxRecDepth 100000 in
theorem writeK (B b : Nat) (l : List UInt8) (a : Option Addr) (m c : Nat) (l2 : List UInt8) (w : World) (h : Bl B b l w) (hs : ∀ w', Below B w w' → Sl w' a m c l2) (hlen : l.length + m ≤ 140737488355328) (hBw : B ≤ w.heap.size) :
    Calls Tryz.prog 61 #[.pointer (some ⟨b, 0, none⟩), .slice a m c] w (RetK B b (.tuple #[.int .i64 m, .nilIface]) (l ++ l2) w) := by
  have HSL := Lib.hid hs
  clear hs
  go_enter Tryz.func61, Tryz.ntmps61
  go_wp2_with (go_at_call 59; refine (copyCheckK B b l _ h).mono ?_)
  rintro e w1 ⟨rfl, ⟨v, hbk, hown, hne, hB⟩, hb1, hk1, hz1⟩
  have c0 : w1.cell? ⟨b, 0, none⟩ = some (.pointer (some ⟨b, 0, none⟩)) := by rw [Lib.cell_of_heap hbk]; rfl
  have c1 : w1.cell? ⟨b, 1, none⟩ = some v := by rw [Lib.cell_of_heap hbk]; rfl
  go_wp2_with (at_builtin; refine wpList_append_R3 rfl _ _ rfl rfl hown rfl (HSL.out w1 hb1) hlen ?c5 ?_)
  case c5 => omega
  intro v' w2 hown' hgrow hw
  have hlt : b < w1.heap.size := Box.lt hbk
  have hb2 : w2.heap[b]? = some (.cells #[.pointer (some ⟨b, 0, none⟩), v] 52 (0, 0)) := by
    rw [hgrow.block b hlt (fun e => hne e.symm)]
    exact hbk
  have d0 : w2.cell? ⟨b, 0, none⟩ = some (.pointer (some ⟨b, 0, none⟩)) := by rw [Lib.cell_of_heap hb2]; rfl
  have d1 : w2.cell? ⟨b, 1, none⟩ = some v := by rw [Lib.cell_of_heap hb2]; rfl
  have f1 : w2.frozen? ⟨b, 1, none⟩ = false := Lib.frozen_of_heap hb2 1
  have hP := bl_put hb1 hk1 hz1 hbk hB hBw (Below.refl _ _) hown hne hown' hgrow hw
  obtain ⟨ao, cap, rfl, _⟩ := hown'.sl
  have HP := Lib.hid hP
  clear hP hown' hw hgrow
  generalize (l ++ l2).length = nn at *
  go_wp2
  go_ret2
  exact ⟨rfl, HP.out⟩

set_option maxHeartbeats 2000000 in
set_option maxRecDepth 100000 in
theorem stringK (B b : Nat) (l : List UInt8) (l2 : List UInt8) (w : World) (h : Bl B b l w) (hlen : l.length + l2.length ≤ 140737488355328) (hBw : B ≤ w.heap.size) :
    Calls Tryz.prog 65 #[.pointer (some ⟨b, 0, none⟩), .string ⟨l2.toArray⟩] w (RetK B b (.tuple #[.int .i64 l2.length, .nilIface]) (l ++ l2) w) := by
  go_enter Tryz.func65, Tryz.ntmps65
  go_wp2_with (go_at_call 59; refine (copyCheckK B b l _ h).mono ?_)
  rintro e w1 ⟨rfl, ⟨v, hbk, hown, hne, hB⟩, hb1, hk1, hz1⟩
  have c0 : w1.cell? ⟨b, 0, none⟩ = some (.pointer (some ⟨b, 0, none⟩)) := by rw [Lib.cell_of_heap hbk]; rfl
  have c1 : w1.cell? ⟨b, 1, none⟩ = some v := by rw [Lib.cell_of_heap hbk]; rfl
  go_wp2_with (at_builtin; refine wpList_append_RS3 rfl _ _ rfl rfl hown rfl hlen ?c5 ?_)
  case c5 => omega
  intro v' w2 hown' hgrow hw
  have hlt : b < w1.heap.size := Box.lt hbk
  have hb2 : w2.heap[b]? = some (.cells #[.pointer (some ⟨b, 0, none⟩), v] 52 (0, 0)) := by
    rw [hgrow.block b hlt (fun e => hne e.symm)]
    exact hbk
  have d0 : w2.cell? ⟨b, 0, none⟩ = some (.pointer (some ⟨b, 0, none⟩)) := by rw [Lib.cell_of_heap hb2]; rfl
  have d1 : w2.cell? ⟨b, 1, none⟩ = some v := by rw [Lib.cell_of_heap hb2]; rfl
  have f1 : w2.frozen? ⟨b, 1, none⟩ = false := Lib.frozen_of_heap hb2 1
  have hP := bl_put hb1 hk1 hz1 hbk hB hBw (Below.refl _ _) hown hne hown' hgrow hw
  obtain ⟨ao, cap, rfl, _⟩ := hown'.sl
  have HP := Lib.hid hP
  clear hP hown' hw hgrow
  generalize (l ++ l2).length = nn at *
  go_wp2
  go_ret2
  exact ⟨rfl, HP.out⟩
end Go.Proofs.YtkbblhioncecmaaGreatDoor
namespace Go.Proofs.YtkbblhioncecmaaGreatDoor
open Go.RowKit
set_option linter.unusedVariables false
set_option linter.unusedSimpArgs false

theorem sl_one (w : World) (T : TypeId) (c : UInt8) : Sl (w.alloc (.cells #[.int .u8 (c.toNat : Int)] T)) (some ⟨w.heap.size, 0, none⟩) 1 1 [c] := by
  refine ⟨rfl, Nat.le_refl _, by unfold maxLen; omega, (fun h => by cases h), .inr ⟨w.heap.size, 0, rfl, fun j hj => ?_⟩⟩
  obtain rfl : j = 0 := by omega
  exact (Box.new w T #[.int .u8 (c.toNat : Int)]).cell 0 rfl
set_option maxHeartbeats 2000000 in
set_option maxRecDepth 100000 in
theorem byteK (B b : Nat) (l : List UInt8) (c : UInt8) (w : World) (h : Bl B b l w) (hlen : l.length + 1 ≤ 140737488355328) (hBw : B ≤ w.heap.size) :
    Calls Tryz.prog 38 #[.pointer (some ⟨b, 0, none⟩), .int .u8 (c.toNat : Int)] w (RetK B b .nilIface (l ++ [c]) w) := by
  go_enter Tryz.func38, Tryz.ntmps38
  go_wp2_with (go_at_call 59; refine (copyCheckK B b l _ h).mono ?_)
  rintro e w1 ⟨rfl, ⟨v, hbk, hown, hne, hB⟩, hb1, hk1, hz1⟩
  have c0 : w1.cell? ⟨b, 0, none⟩ = some (.pointer (some ⟨b, 0, none⟩)) := by rw [Lib.cell_of_heap hbk]; rfl
  have c1 : w1.cell? ⟨b, 1, none⟩ = some v := by rw [Lib.cell_of_heap hbk]; rfl
  have ha : ∀ o, Below w1.heap.size w1 (w1.alloc o) := fun o => (Below.refl _ _).alloc (Nat.le_refl _) o
  have hown1 := fun o => hown.after (ha o)
  have hsz : ∀ o, (w1.alloc o).heap.size = w1.heap.size + 1 := fun o => by simp
  go_wp2_with (at_builtin; refine wpList_append_R3 rfl _ _ rfl rfl (hown1 _) rfl (sl_one w1 _ c) hlen ?c5 ?_)
  case c5 => rw [hsz]; omega
  intro v' w2 hown' hgrow hw
  have hlt : b < w1.heap.size := Box.lt hbk
  have hb2 : w2.heap[b]? = some (.cells #[.pointer (some ⟨b, 0, none⟩), v] 52 (0, 0)) := by
    rw [hgrow.block b (by simp; omega) (fun e => hne e.symm), Lib.alloc_old w1 _ b hlt]
    exact hbk
  have d0 : w2.cell? ⟨b, 0, none⟩ = some (.pointer (some ⟨b, 0, none⟩)) := by rw [Lib.cell_of_heap hb2]; rfl
  have d1 : w2.cell? ⟨b, 1, none⟩ = some v := by rw [Lib.cell_of_heap hb2]; rfl
  have f1 : w2.frozen? ⟨b, 1, none⟩ = false := Lib.frozen_of_heap hb2 1
  have hP := bl_put hb1 hk1 hz1 hbk hB hBw (ha _) (hown1 _) hne hown' hgrow (fun k hk => by rw [hsz]; exact hw k hk)
  obtain ⟨ao, cap, rfl, _⟩ := hown'.sl
  have HP := Lib.hid hP
  clear hP hown' hw hgrow
  generalize (l ++ [c]).length = nn at *
  go_wp2
  go_ret
  exact ⟨rfl, HP.out⟩
end Go.Proofs.YtkbblhioncecmaaGreatDoor
namespace Go.Proofs.YtkbblhioncecmaaGreatDoor
open Go.RowKit
set_option linter.unusedVariables false
set_option linter.unusedSimpArgs false

set_option maxHeartbeats 4000000 in
set_option maxRecDepth 100000 in
theorem quoteK (B b : Nat) (acc : List UInt8) (a : Option Addr) (n c : Nat) (l : List UInt8) (w : World) (h : Bl B b acc w) (hs : ∀ w', Below B w w' → Sl w' a n c l) (hla : acc.length ≤ 1000000000) (hll : n ≤ 1000000000) (hBw : B ≤ w.heap.size) :
    Calls Tryz.prog 64 #[.pointer (some ⟨b, 0, none⟩), .slice a n c] w (RetK B b (.tuple #[]) (acc ++ quoteL l) w) := by
  have HS := Lib.hid hs
  have HB := Lib.hid h
  have HL := Lib.hid (hs w (Below.refl _ _)).1
  have HBW := Lib.hid hBw
  clear hs h
  go_enter Tryz.func64, Tryz.ntmps64
  go_wp2_with fail
  refine (byteK B b acc 34 w HB.out (by omega) hBw).mono ?_
  rintro e w1 ⟨rfl, h1, b1, k1⟩
  have K1 := Lib.hid k1
  clear k1
  have H1 := Lib.hid h1
  clear h1
  go_wp2_with fail
  go_loopw [10] (fun i wr => ∃ k : Nat, k ≤ n ∧ i = .int .i64 k ∧ Bl B b (acc ++ [34] ++ (l.take k).flatMap quoteC) wr ∧ Below B w wr ∧ Kept b w wr) (fun i _ => n - (intOf i).toNat)
  case atStart => exact ⟨0, Nat.zero_le _, rfl, by simpa using H1.out, b1, K1.out⟩
  case round =>
    clear H1 b1 K1
    obtain ⟨k, hk, rfl, hb, bl, kp⟩ := hrel
    have KP := Lib.hid kp
    have WSZ := Lib.hid (show w.heap.size ≤ wr.heap.size from bl.size)
    clear kp
    have HR := Lib.hid hb
    have BL := Lib.hid bl
    have HSZ := Lib.hid (Nat.le_trans hBw bl.size)
    clear hb bl
    have HLK : Hid ((acc ++ [34] ++ (l.take k).flatMap quoteC).length ≤ 3000000001) := Lib.hid (by
      have := quote_len (l.take k)
      have := HL.out
      simp only [List.length_append, List.length_take, List.length_cons, List.length_nil] at *
      omega)
    by_cases hlt : k < n
    case neg =>
      have hki : ¬ (k : Int) < n := by omega
      have HT : Hid ((l.take k).flatMap quoteC = l.flatMap quoteC) := Lib.hid (by rw [List.take_of_length_le (by have := HL.out; omega)])
      go_wp2_with fail
      refine (byteK B b _ 34 _ HR.out (by have := HLK.out; omega) HSZ.out).mono ?_
      rintro e w2 ⟨rfl, h2, b2, k2⟩
      have K2 := Lib.hid (KP.out.trans k2 WSZ.out)
      rw [HT.out] at h2
      have H2 : Bl B b (acc ++ quoteL l) w2 := by
        unfold quoteL
        rw [← List.append_assoc, ← List.append_assoc]
        exact h2
      have B2 := BL.out.trans b2
      clear h2 b2 k2 HR
      go_wp2_with fail
      exact bodyPost_ret (results_none rfl _ _ _) rfl ⟨rfl, H2, B2, K2.out⟩
    case pos =>
      have hki : (k : Int) < n := by omega
      have hk0 : (0 : Int) ≤ k := by omega
      have hkl : k < l.length := by have := HL.out; omega
      have HQS := Lib.hid (quote_snoc l k hkl)
      obtain ⟨ab, ao, rfl, hcell⟩ : ∃ b o, a = some ⟨b, o, none⟩ ∧ wr.cell? ⟨b, o + k, none⟩ = some (.int .u8 ((l[k]'hkl).toNat : Int)) := by
        rcases (HS.out wr BL.out).2.2.2.2 with h | ⟨b, o, h1, h2⟩
        · omega
        · refine ⟨b, o, h1, ?_⟩
          have := h2 k hlt
          rwa [List.getD, List.getElem?_eq_getElem hkl] at this
      generalize (l[k]'hkl) = x at *
      by_cases hx : x = 34 ∨ x = 92
      · have HQ : Hid (quoteC x = [92] ++ [x]) := Lib.hid (by unfold quoteC; rw [if_pos hx]; rfl)
        rcases hx with rfl | rfl
        · go_wp2_with fail
          refine (byteK B b _ 92 _ HR.out (by have := HLK.out; omega) HSZ.out).mono ?_
          rintro e w2 ⟨rfl, h2, b2, k2⟩
          have K2 := Lib.hid (KP.out.trans k2 WSZ.out)
          have H2 := Lib.hid h2
          have B2 := Lib.hid (BL.out.trans b2)
          have HZ2 := Lib.hid (Nat.le_trans hBw B2.out.size)
          clear h2 b2 k2 HR
          go_wp2_with fail
          refine (byteK B b _ 34 _ H2.out (by have := HLK.out; simp only [List.length_append, List.length_cons, List.length_nil] at *; omega) HZ2.out).mono ?_
          rintro e w3 ⟨rfl, h3, b3, k3⟩
          have K3 := Lib.hid (K2.out.trans k3 B2.out.size)
          have H3 : Hid (Bl B b (acc ++ [34] ++ (l.take (k + 1)).flatMap quoteC) w3) := Lib.hid (by
            rw [HQS.out, HQ.out]
            rw [List.append_assoc] at h3
            rw [← List.append_assoc] at h3 ⊢
            simpa [List.append_assoc] using h3)
          have B3 := Lib.hid (B2.out.trans b3)
          clear h3 b3 k3 H2
          go_wp2_with fail
          go_roundw
          case rel => exact ⟨k + 1, by omega, by go_num, H3.out, B3.out, K3.out⟩
          case measure => simp [intOf] <;> omega
        · go_wp2_with fail
          refine (byteK B b _ 92 _ HR.out (by have := HLK.out; omega) HSZ.out).mono ?_
          rintro e w2 ⟨rfl, h2, b2, k2⟩
          have K2 := Lib.hid (KP.out.trans k2 WSZ.out)
          have H2 := Lib.hid h2
          have B2 := Lib.hid (BL.out.trans b2)
          have HZ2 := Lib.hid (Nat.le_trans hBw B2.out.size)
          clear h2 b2 k2 HR
          go_wp2_with fail
          refine (byteK B b _ 92 _ H2.out (by have := HLK.out; simp only [List.length_append, List.length_cons, List.length_nil] at *; omega) HZ2.out).mono ?_
          rintro e w3 ⟨rfl, h3, b3, k3⟩
          have K3 := Lib.hid (K2.out.trans k3 B2.out.size)
          have H3 : Hid (Bl B b (acc ++ [34] ++ (l.take (k + 1)).flatMap quoteC) w3) := Lib.hid (by
            rw [HQS.out, HQ.out]
            rw [List.append_assoc] at h3
            rw [← List.append_assoc] at h3 ⊢
            simpa [List.append_assoc] using h3)
          have B3 := Lib.hid (B2.out.trans b3)
          clear h3 b3 k3 H2
          go_wp2_with fail
          go_roundw
          case rel => exact ⟨k + 1, by omega, by go_num, H3.out, B3.out, K3.out⟩
          case measure => simp [intOf] <;> omega
      · have HQ : Hid (quoteC x = [x]) := Lib.hid (by unfold quoteC; rw [if_neg hx])
        have hx1 : ((x.toNat : Int) == 34) = false := by
          have : x ≠ 34 := fun e => hx (.inl e)
          have : x.toNat ≠ 34 := fun e => this (UInt8.toNat_inj.1 e)
          simp; omega
        have hx2 : ((x.toNat : Int) == 92) = false := by
          have : x ≠ 92 := fun e => hx (.inr e)
          have : x.toNat ≠ 92 := fun e => this (UInt8.toNat_inj.1 e)
          simp; omega
        have hx3 : ¬ (x.toNat : Int) = 34 := by simpa using hx1
        have hx4 : ¬ (x.toNat : Int) = 92 := by simpa using hx2
        clear hx
        go_wp2_with fail
        refine (byteK B b _ x _ HR.out (by have := HLK.out; omega) HSZ.out).mono ?_
        rintro e w2 ⟨rfl, h2, b2, k2⟩
        have K2 := Lib.hid (KP.out.trans k2 WSZ.out)
        have H2 : Hid (Bl B b (acc ++ [34] ++ (l.take (k + 1)).flatMap quoteC) w2) := Lib.hid (by
          rw [HQS.out, HQ.out, ← List.append_assoc]
          exact h2)
        have B2 := Lib.hid (BL.out.trans b2)
        clear h2 b2 k2 HR
        go_wp2_with fail
        go_roundw
        case rel => exact ⟨k + 1, by omega, by go_num, H2.out, B2.out, K2.out⟩
        case measure => simp [intOf] <;> omega
end Go.Proofs.YtkbblhioncecmaaGreatDoor
namespace Go.Proofs.YtkbblhioncecmaaGreatDoor
open Go.RowKit
set_option linter.unusedVariables false
set_option linter.unusedSimpArgs false

theorem strKB (B b : Nat) (l : List UInt8) (s : ByteArray) (m : List UInt8) (hm : s.data.toList = m) (w : World) (h : Bl B b l w) (hlen : l.length + m.length ≤ 140737488355328) (hBw : B ≤ w.heap.size) :
    Calls Tryz.prog 65 #[.pointer (some ⟨b, 0, none⟩), .string s] w (RetK B b (.tuple #[.int .i64 m.length, .nilIface]) (l ++ m) w) := by
  obtain ⟨d⟩ := s
  obtain rfl : d.toList = m := hm
  have := stringK B b l d.toList w h hlen hBw
  rwa [Array.toArray_toList] at this
set_option maxHeartbeats 4000000 in
set_option maxRecDepth 100000 in
theorem plainK (B b : Nat) (acc : List UInt8) (a : Option Addr) (n c : Nat) (l : List UInt8) (w : World) (h : Bl B b acc w) (hs : ∀ w', Below B w w' → Sl w' a n c l) (hla : acc.length ≤ 1000000000) (hll : n ≤ 1000000) (hBw : B ≤ w.heap.size) :
    Calls Tryz.prog 39 #[.pointer (some ⟨b, 0, none⟩), .slice a n c] w (RetK B b (.tuple #[]) (acc ++ plainL l) w) := by
  have HB := Lib.hid h
  have HL := Lib.hid (hs w (Below.refl _ _)).1
  have CT := Lib.hid (token_any a n c l w (hs w (Below.refl _ _)))
  have CC := Lib.hid (containsFunc_any 63 _ plain1_tests a n c l w (hs w (Below.refl _ _)))
  have CQ := Lib.hid (quoteK B b acc a n c l w h hs hla (by omega) hBw)
  have CW := Lib.hid (writeK B b acc a n c l w h hs (by omega) hBw)
  have CH := Lib.hid (hex_any a n c l w (hs w (Below.refl _ _)) (by have := HL.out; omega))
  have CB := Lib.hid (base64_any a n c l w (hs w (Below.refl _ _)) (by have := HL.out; omega))
  have HP : Hid (plainL l = if tokB l then l else if l.any seenB then (if l.length ≤ 16 then [35] ++ hexL l ++ [35] else [124] ++ b64 l ++ [124]) else quoteL l) := Lib.hid rfl
  have HHL := Lib.hid (hexL_len l)
  have HLT := Lib.hid h.lt
  clear hs h
  generalize tokB l = tk at *
  generalize l.any seenB = sn at *
  go_enter Tryz.func39, Tryz.ntmps39
  go_wp2_with fail
  refine CT.out.mono ?_
  rintro e w1 ⟨rfl, rfl⟩
  clear CT
  cases tk with
  | true =>
    go_wp2_with fail
    refine CW.out.mono ?_
    rintro e w2 ⟨rfl, h2⟩
    have H2 := Lib.hid h2
    clear h2
    go_wp2_with fail
    exact bodyPost_ret (results_none rfl _ _ _) rfl ⟨rfl, by rw [HP.out]; exact H2.out⟩
  | false =>
    go_wp2_with fail
    refine CC.out.mono ?_
    rintro e w2 ⟨rfl, rfl⟩
    clear CC
    cases sn with
    | false =>
      go_wp2_with fail
      refine CQ.out.mono ?_
      rintro e w2 ⟨rfl, h2⟩
      have H2 := Lib.hid h2
      clear h2
      go_wp2_with fail
      exact bodyPost_ret (results_none rfl _ _ _) rfl ⟨rfl, by rw [HP.out]; exact H2.out⟩
    | true =>
      by_cases h16 : n ≤ 16
      · have h16i : (n : Int) ≤ 16 := by omega
        go_wp2_with fail
        refine CH.out.mono ?_
        rintro e w3 ⟨rfl, b3⟩
        have HB3 := Lib.hid (HB.out.after b3)
        have K3 := Lib.hid (kept_below HLT.out b3)
        have B3 := Lib.hid (b3.mono hBw)
        have HZ := Lib.hid (Nat.le_trans hBw b3.size)
        have HZ3 := Lib.hid b3.size
        have h16l : l.length ≤ 16 := by have := HL.out; omega
        have HP2 : Hid (plainL l = [35] ++ hexL l ++ [35]) := Lib.hid (by rw [HP.out]; simp [h16l])
        have hxl : (hexL l).length ≤ 2000000 := by have := HHL.out; omega
        clear b3 HB CH CB CQ CW
        go_wp2_with fail
        refine (strKB B b acc _ ([35] ++ hexL l ++ [35]) (by simp [ByteArray.data_append]) _ HB3.out (by have := HHL.out; simp only [List.length_append, List.length_cons, List.length_nil]; omega) HZ.out).mono ?_
        rintro e w4 ⟨rfl, h4, b4, k4⟩
        have B4 := Lib.hid (B3.out.trans b4)
        have K4 := Lib.hid (K3.out.trans k4 HZ3.out)
        rw [← HP2.out] at h4
        clear HP HP2 HHL b4 HB3 k4
        go_wp2_with fail
        exact bodyPost_ret (results_none rfl _ _ _) rfl ⟨rfl, h4, B4.out, K4.out⟩
      · have h16i : ¬ (n : Int) ≤ 16 := by omega
        go_wp2_with fail
        refine CB.out.mono ?_
        rintro e w3 ⟨rfl, b3⟩
        have HB3 := Lib.hid (HB.out.after b3)
        have K3 := Lib.hid (kept_below HLT.out b3)
        have B3 := Lib.hid (b3.mono hBw)
        have HZ := Lib.hid (Nat.le_trans hBw b3.size)
        have HZ3 := Lib.hid b3.size
        have h16l : ¬ l.length ≤ 16 := by have := HL.out; omega
        have HP2 : Hid (plainL l = [124] ++ b64 l ++ [124]) := Lib.hid (by rw [HP.out]; simp [h16l])
        have HBL := Lib.hid (b64_len l)
        have hxl : (b64 l).length ≤ 3000000 := by have := HBL.out; have := HL.out; omega
        clear b3 HB CH CB CQ CW
        go_wp2_with fail
        refine (strKB B b acc _ ([124] ++ b64 l ++ [124]) (by simp [ByteArray.data_append]) _ HB3.out (by have := HBL.out; have := HL.out; simp only [List.length_append, List.length_cons, List.length_nil]; omega) HZ.out).mono ?_
        rintro e w4 ⟨rfl, h4, b4, k4⟩
        have B4 := Lib.hid (B3.out.trans b4)
        have K4 := Lib.hid (K3.out.trans k4 HZ3.out)
        rw [← HP2.out] at h4
        clear HP HP2 HHL b4 HB3 k4
        go_wp2_with fail
        exact bodyPost_ret (results_none rfl _ _ _) rfl ⟨rfl, h4, B4.out, K4.out⟩
end Go.Proofs.YtkbblhioncecmaaGreatDoor
namespace Go.Proofs.YtkbblhioncecmaaGreatDoor
open Go.RowKit
set_option linter.unusedVariables false
set_option linter.unusedSimpArgs false

/-- what goes on while the builder at b is written -/
def WK (B b : Nat) (w0 : World) (l : List UInt8) (w : World) : Prop := Bl B b l w ∧ Below B w0 w ∧ Kept b w0 w ∧ b < w0.heap.size
theorem WK.ret {B b : Nat} {w0 w w' : World} {l l' : List UInt8} {r : Value} {e : Ending} (h : WK B b w0 l w) (h' : RetK B b r l' w e w') : WK B b w0 l' w' :=
  ⟨h'.2.1, h.2.1.trans h'.2.2.1, h.2.2.1.trans h'.2.2.2 h.2.1.size, h.2.2.2⟩
theorem WK.below {B b : Nat} {w0 w w' : World} {l : List UInt8} (h : WK B b w0 l w) (hb : Below w.heap.size w w') (hB : B ≤ w.heap.size) : WK B b w0 l w' :=
  ⟨h.1.after hb, h.2.1.trans (hb.mono hB), h.2.2.1.trans (kept_below h.1.lt hb) h.2.1.size, h.2.2.2⟩
theorem WK.start {B b : Nat} {w : World} {l : List UInt8} (h : Bl B b l w) (w' : World) (hb : Below w.heap.size w w') (hB : B ≤ w.heap.size) : WK B b w l w' :=
  ⟨h.after hb, hb.mono hB, kept_below h.lt hb, h.lt⟩
theorem WK.hB {B b : Nat} {w0 w : World} {l : List UInt8} (h : WK B b w0 l w) (hB : B ≤ w0.heap.size) : B ≤ w.heap.size := Nat.le_trans hB h.2.1.size
/-- a box that is neither the builder's nor its row's -/
def KB (b : Nat) (w : World) (g : Nat) (cs : Array Value) : Prop := Box w g 26 cs ∧ g ≠ b ∧ ¬ OwnOf w b g
theorem KB.ret {B b : Nat} {w w' : World} {l' : List UInt8} {r : Value} {e : Ending} {g : Nat} {cs : Array Value} (h : KB b w g cs) (h' : RetK B b r l' w e w') : KB b w' g cs :=
  ⟨h'.2.2.2.box h.1 h.2.1 h.2.2, h.2.1, (h'.2.2.2 g h.1.lt h.2.1 h.2.2).2⟩
theorem KB.below {b : Nat} {w w' : World} {g : Nat} {cs : Array Value} (h : KB b w g cs) (hlt : b < w.heap.size) (hb : Below w.heap.size w w') : KB b w' g cs :=
  ⟨h.1.after hb, h.2.1, (kept_below hlt hb g h.1.lt h.2.1 h.2.2).2⟩
theorem KB.made {B b : Nat} {w u : World} {acc : List UInt8} {g : Nat} {cs : Array Value} (hb : Bl B b acc w) (hX : Box u g 26 cs) (hg : w.heap.size ≤ g) (hu : Below w.heap.size w u) : KB b u g cs :=
  ⟨hX, fun e => by have := hb.lt; omega, fun ⟨p, v, T', z, h1, h2⟩ => by
    have hlt := hb.lt
    obtain ⟨p', u', _, h3, h4, _⟩ := hb
    have h5 := Option.some.inj (h1.symm.trans ((hu.block b hlt).trans h3))
    cases h5
    have := (h4.own _ h2).2
    omega⟩
theorem KB.new {B b : Nat} {w : World} {acc : List UInt8} (cs : Array Value) (hb : Bl B b acc w) : KB b (w.alloc (.cells cs 26)) w.heap.size cs :=
  KB.made hb (Box.new _ _ _) (Nat.le_refl _) ((Below.refl _ _).alloc (Nat.le_refl _) _)

set_option maxHeartbeats 8000000 in
set_option maxRecDepth 100000 in
theorem valueK (s : Sx) : ∀ (B b : Nat) (acc : List UInt8) (v : SV) (w : World), Bl B b acc w → RdI (fun k => k < B) w v s → acc.length + 8 * s.form.length ≤ 1000000000 → s.form.length ≤ 400000 → B ≤ w.heap.size →
    Calls Tryz.prog 19 #[.pointer (some ⟨b, 0, none⟩), v.val] w (RetK B b (.tuple #[]) (acc ++ s.adv) w) := by
  induction s using Sx.ind with
  | h l hh hi da ks ih =>
    intro B b acc v w hb hr hl hf hBw
    obtain ⟨e1, e2, s1, s2, hn, hnc, hcm, K, hrow, hk⟩ := hr.parts
    have HRD := Lib.hid (fun (w' : World) (h : Below B w w') => (hr.keep (fun k hk => h.block k hk)).parts)
    have HIN := Lib.hid hr.inb.2.2
    obtain ⟨vl, vh, va1, vn1, vc1, va2, vn2, vc2, va3, vn3, vc3⟩ := v
    obtain rfl : vl = l := e1
    obtain rfl : vh = hh := e2
    have HN3 := Lib.hid hn
    have HCM := Lib.hid hcm
    have HNC := Lib.hid hnc
    have HS1 : Hid (vn1 = hi.length) := Lib.hid s1.1
    have HS2 : Hid (vn2 = da.length) := Lib.hid s2.1
    clear hr hrow hk hn hnc hcm s1 s2
    cases vl with
    | false =>
      have HPI := Lib.hid (plainL_len hi)
      have HPD := Lib.hid (plainL_len da)
      have hti := textL_ge hi
      have htd := textL_ge da
      clear ih HN3 HCM HNC HIN
      cases vh with
      | false =>
        have HA : Hid ((Sx.mk false false hi da ks).adv = plainL da) := Lib.hid (by simp [Sx.adv])
        have HFM : Hid (da.length + 1 ≤ 400000 ∧ acc.length + 8 * da.length ≤ 1000000000) := Lib.hid (by
          rw [form_def] at hf hl
          simp at hf hl
          omega)
        clear hf hl hti htd
        show Calls _ _ #[_, .agg #[.bool false, .bool false, .slice va1 vn1 vc1, .slice va2 vn2 vc2, .slice va3 vn3 vc3]] _ _
        have W := Lib.hid (WK.start hb (w.alloc (.cells #[.bool false, .bool false, .slice va1 vn1 vc1, .slice va2 vn2 vc2, .slice va3 vn3 vc3] 26)) ((Below.refl _ _).alloc (Nat.le_refl _) _) hBw)
        have V := Lib.hid (KB.new (w := w) #[.bool false, .bool false, .slice va1 vn1 vc1, .slice va2 vn2 vc2, .slice va3 vn3 vc3] hb)
        have HBW := Lib.hid hBw
        go_enter Tryz.func19, Tryz.ntmps19
        go_upto_region 1 with fail
        change Code.wp _ _ _ _ (w.alloc (.cells #[.bool false, .bool false, .slice va1 vn1 vc1, .slice va2 vn2 vc2, .slice va3 vn3 vc3] 26))
        generalize (w.alloc (.cells #[.bool false, .bool false, .slice va1 vn1 vc1, .slice va2 vn2 vc2, .slice va3 vn3 vc3] 26)) = x0 at *
        have v0 := V.out.1.cell 0 rfl
        have v1 := V.out.1.cell 1 rfl
        have v2 := V.out.1.cell 2 rfl
        have v3 := V.out.1.cell 3 rfl
        have v4 := V.out.1.cell 4 rfl
        go_wp2_with fail
        refine (plainK B b (acc) va2 vn2 vc2 da _ W.out.1 (fun w' h => (HRD.out w' (W.out.2.1.trans h)).2.2.2.1) (by have := HFM.out; omega) (by have := HFM.out; have := HS1.out; have := HS2.out; (try dsimp only at *); omega) (W.out.hB HBW.out)).mono ?_
        rintro e z1 h_
        obtain rfl := h_.1
        have W' := Lib.hid (W.out.ret h_)
        have V' := Lib.hid (V.out.ret h_)
        clear h_ W V
        have W := W'
        have V := V'
        clear W' V'
        rw [← HA.out] at W
        clear v0 v1 v2 v3 v4
        go_wp2_with fail
        exact bodyPost_ret (results_none rfl _ _ _) rfl ⟨rfl, W.out.1, W.out.2.1, W.out.2.2.1⟩
      | true =>
        have HA : Hid ((Sx.mk false true hi da ks).adv = [91] ++ plainL hi ++ [93] ++ plainL da) := Lib.hid (by simp [Sx.adv])
        have HFM : Hid (da.length + hi.length + 1 ≤ 400000 ∧ acc.length + 8 * da.length + 8 * hi.length + 8 ≤ 1000000000) := Lib.hid (by
          rw [form_def] at hf hl
          simp at hf hl
          omega)
        clear hf hl hti htd
        show Calls _ _ #[_, .agg #[.bool false, .bool true, .slice va1 vn1 vc1, .slice va2 vn2 vc2, .slice va3 vn3 vc3]] _ _
        have W := Lib.hid (WK.start hb (w.alloc (.cells #[.bool false, .bool true, .slice va1 vn1 vc1, .slice va2 vn2 vc2, .slice va3 vn3 vc3] 26)) ((Below.refl _ _).alloc (Nat.le_refl _) _) hBw)
        have V := Lib.hid (KB.new (w := w) #[.bool false, .bool true, .slice va1 vn1 vc1, .slice va2 vn2 vc2, .slice va3 vn3 vc3] hb)
        have HBW := Lib.hid hBw
        go_enter Tryz.func19, Tryz.ntmps19
        go_upto_region 1 with fail
        change Code.wp _ _ _ _ (w.alloc (.cells #[.bool false, .bool true, .slice va1 vn1 vc1, .slice va2 vn2 vc2, .slice va3 vn3 vc3] 26))
        generalize (w.alloc (.cells #[.bool false, .bool true, .slice va1 vn1 vc1, .slice va2 vn2 vc2, .slice va3 vn3 vc3] 26)) = x0 at *
        have v0 := V.out.1.cell 0 rfl
        have v1 := V.out.1.cell 1 rfl
        have v2 := V.out.1.cell 2 rfl
        have v3 := V.out.1.cell 3 rfl
        have v4 := V.out.1.cell 4 rfl
        go_wp2_with fail
        refine (byteK B b (acc) 91 _ W.out.1 (by have := HFM.out; have := HPI.out; have := HPD.out; (try simp only [List.length_append, List.length_cons, List.length_nil]); omega) (W.out.hB HBW.out)).mono ?_
        rintro e z1 h_
        obtain rfl := h_.1
        have W' := Lib.hid (W.out.ret h_)
        have V' := Lib.hid (V.out.ret h_)
        clear h_ W V
        have W := W'
        have V := V'
        clear W' V'
        have v0 := V.out.1.cell 0 rfl
        have v1 := V.out.1.cell 1 rfl
        have v2 := V.out.1.cell 2 rfl
        have v3 := V.out.1.cell 3 rfl
        have v4 := V.out.1.cell 4 rfl
        go_wp2_with fail
        refine (plainK B b (acc ++ [91]) va1 vn1 vc1 hi _ W.out.1 (fun w' h => (HRD.out w' (W.out.2.1.trans h)).2.2.1) (by have := HFM.out; have := HPI.out; have := HPD.out; (try simp only [List.length_append, List.length_cons, List.length_nil]); omega) (by have := HFM.out; have := HS1.out; have := HS2.out; (try dsimp only at *); omega) (W.out.hB HBW.out)).mono ?_
        rintro e z2 h_
        obtain rfl := h_.1
        have W' := Lib.hid (W.out.ret h_)
        have V' := Lib.hid (V.out.ret h_)
        clear h_ W V
        have W := W'
        have V := V'
        clear W' V'
        have v0 := V.out.1.cell 0 rfl
        have v1 := V.out.1.cell 1 rfl
        have v2 := V.out.1.cell 2 rfl
        have v3 := V.out.1.cell 3 rfl
        have v4 := V.out.1.cell 4 rfl
        go_wp2_with fail
        refine (byteK B b (acc ++ [91] ++ plainL hi) 93 _ W.out.1 (by have := HFM.out; have := HPI.out; have := HPD.out; (try simp only [List.length_append, List.length_cons, List.length_nil]); omega) (W.out.hB HBW.out)).mono ?_
        rintro e z3 h_
        obtain rfl := h_.1
        have W' := Lib.hid (W.out.ret h_)
        have V' := Lib.hid (V.out.ret h_)
        clear h_ W V
        have W := W'
        have V := V'
        clear W' V'
        have v0 := V.out.1.cell 0 rfl
        have v1 := V.out.1.cell 1 rfl
        have v2 := V.out.1.cell 2 rfl
        have v3 := V.out.1.cell 3 rfl
        have v4 := V.out.1.cell 4 rfl
        go_wp2_with fail
        refine (plainK B b (acc ++ [91] ++ plainL hi ++ [93]) va2 vn2 vc2 da _ W.out.1 (fun w' h => (HRD.out w' (W.out.2.1.trans h)).2.2.2.1) (by have := HFM.out; have := HPI.out; have := HPD.out; (try simp only [List.length_append, List.length_cons, List.length_nil]); omega) (by have := HFM.out; have := HS1.out; have := HS2.out; (try dsimp only at *); omega) (W.out.hB HBW.out)).mono ?_
        rintro e z4 h_
        obtain rfl := h_.1
        have W' := Lib.hid (W.out.ret h_)
        have V' := Lib.hid (V.out.ret h_)
        clear h_ W V
        have W := W'
        have V := V'
        clear W' V'
        rw [show acc ++ [91] ++ plainL hi ++ [93] ++ plainL da = acc ++ (Sx.mk false true hi da ks).adv by rw [HA.out]; simp] at W
        clear v0 v1 v2 v3 v4
        go_wp2_with fail
        exact bodyPost_ret (results_none rfl _ _ _) rfl ⟨rfl, W.out.1, W.out.2.1, W.out.2.2.1⟩
    | true =>
      have HA : Hid ((Sx.mk true vh hi da ks).adv = [40] ++ Sx.advL ks ++ [41]) := Lib.hid (by simp [Sx.adv])
      have HFM : Hid ((Sx.formL ks).length + 2 ≤ 400000 ∧ acc.length + 8 * (Sx.formL ks).length + 16 ≤ 1000000000) := Lib.hid (by
        rw [form_def] at hf hl
        simp at hf hl
        omega)
      have IH := Lib.hid ih
      replace HN3 : Hid (vn3 = ks.length) := HN3
      obtain rfl : vn3 = ks.length := HN3.out
      have hcm : ks.length ≤ maxLen := Nat.le_trans HNC.out HCM.out
      unfold maxLen at hcm
      clear hf hl ih HN3 HNC HCM
      show Calls _ _ #[_, .agg #[.bool true, .bool vh, .slice va1 vn1 vc1, .slice va2 vn2 vc2, .slice va3 ks.length vc3]] _ _
      have W := Lib.hid (WK.start hb (w.alloc (.cells #[.bool true, .bool vh, .slice va1 vn1 vc1, .slice va2 vn2 vc2, .slice va3 ks.length vc3] 26)) ((Below.refl _ _).alloc (Nat.le_refl _) _) hBw)
      have V := Lib.hid (KB.new (w := w) #[.bool true, .bool vh, .slice va1 vn1 vc1, .slice va2 vn2 vc2, .slice va3 ks.length vc3] hb)
      have HBW := Lib.hid hBw
      go_enter Tryz.func19, Tryz.ntmps19
      go_upto_region 1 with fail
      change Code.wp _ _ _ _ (w.alloc (.cells #[.bool true, .bool vh, .slice va1 vn1 vc1, .slice va2 vn2 vc2, .slice va3 ks.length vc3] 26))
      generalize (w.alloc (.cells #[.bool true, .bool vh, .slice va1 vn1 vc1, .slice va2 vn2 vc2, .slice va3 ks.length vc3] 26)) = x0 at *
      have v0 := V.out.1.cell 0 rfl
      have v1 := V.out.1.cell 1 rfl
      have v2 := V.out.1.cell 2 rfl
      have v3 := V.out.1.cell 3 rfl
      have v4 := V.out.1.cell 4 rfl
      go_wp2_with fail
      refine (byteK B b (acc) 40 _ W.out.1 (by have := HFM.out; omega) (W.out.hB HBW.out)).mono ?_
      rintro e z1 h_
      obtain rfl := h_.1
      have W' := Lib.hid (W.out.ret h_)
      have V' := Lib.hid (V.out.ret h_)
      clear h_ W V
      have W := W'
      have V := V'
      clear W' V'
      clear v0 v1 v2 v3 v4
      have v4 := V.out.1.cell 4 rfl
      go_wp2_with fail
      go_loopw [28] (fun i wr => ∃ n : Nat, n ≤ ks.length ∧ i = .int .i64 n ∧ Hid (WK B b w (acc ++ [40] ++ Sx.advL (ks.take n)) wr) ∧ Hid (KB b wr w.heap.size #[.bool true, .bool vh, .slice va1 vn1 vc1, .slice va2 vn2 vc2, .slice va3 ks.length vc3])) (fun i _ => ks.length - (intOf i).toNat)
      case atStart => exact ⟨0, Nat.zero_le _, rfl, by simpa [Sx.advL] using W, V⟩
      case round =>
        obtain ⟨n, hnl, rfl, W2, V2⟩ := hrel
        clear W V v4
        have W := W2
        have V := V2
        clear W2 V2
        by_cases hlt : n < ks.length
        · obtain ⟨K, hrow, hk⟩ := (HRD.out wr W.out.2.1).2.2.2.2.2.2.2
          obtain ⟨b3, o3, rfl, hld⟩ := hrow.range hlt
          have HL := Lib.hid hld
          have hkn : RdI (fun k => k < B) wr (K n) ks[n] := hk n hlt
          obtain ⟨kv, hkv⟩ : ∃ kv, kv = K n := ⟨_, rfl⟩
          rw [← hkv] at HL hkn
          have HKN := Lib.hid hkn
          obtain ⟨kid, hkid⟩ : ∃ kid, kid = ks[n] := ⟨_, rfl⟩
          rw [← hkid] at HKN
          have HFK : Hid (acc.length + 1 + (Sx.advL (ks.take n)).length + 1 + 8 * kid.form.length ≤ 1000000000 ∧ kid.form.length ≤ 400000) := Lib.hid (by
            have e1 := advL_len (ks.take n) (fun k hk => adv_len k)
            have e2 := Sx.formL_snoc ks n hlt
            have e3 : (Sx.formL (ks.take (n + 1))).length ≤ (Sx.formL ks).length := Sx.formL_take ks (n + 1)
            rw [← hkid] at e2
            rw [e2, List.length_append] at e3
            have := HFM.out
            omega)
          have HNX : Hid (acc ++ [40] ++ Sx.advL (ks.take n) ++ (if 0 < n then [32] else []) ++ kid.adv = acc ++ [40] ++ Sx.advL (ks.take (n + 1))) := Lib.hid (by rw [Sx.advL_snoc ks n hlt, ← hkid]; simp)
          have IH2 : Hid (∀ (acc : List UInt8) (w : World), Bl B b acc w → RdI (fun k => k < B) w kv kid → acc.length + 8 * kid.form.length ≤ 1000000000 → B ≤ w.heap.size → Calls Tryz.prog 19 #[.pointer (some ⟨b, 0, none⟩), kv.val] w (RetK B b (.tuple #[]) (acc ++ kid.adv) w)) := Lib.hid (fun acc w h1 h2 h3 h4 => by
            have := IH.out kid (hkid ▸ List.getElem_mem hlt) B b acc kv w h1 h2 h3 HFK.out.2 h4
            exact this)
          obtain ⟨bs, hbs⟩ : ∃ bs, bs = acc ++ [40] ++ Sx.advL (ks.take n) := ⟨_, rfl⟩
          have HBS : Hid (bs.length = acc.length + 1 + (Sx.advL (ks.take n)).length) := Lib.hid (by rw [hbs]; simp; omega)
          rw [← hbs] at W HNX
          have v4 := V.out.1.cell 4 rfl
          clear hld hrow hk hkn hkv hkid hbs
          go_upto_region 11 with first | (refine wpList_load_sv rfl _ rfl b3 _ rfl _ HL.out ?_) | (refine wpList_store_box (cells := kv.cells) rfl 26 _ _ rfl (Box.new _ _ _) (by rfl) (by rfl) rfl (by kernel_rfl) (SV.one _) ?_; intro u9 Y9 st9)
          have hbu : Below wr.heap.size wr u9 := st9.below wr.heap.size wr (Nat.le_refl _) ((Below.refl _ _).alloc (Nat.le_refl _) _)
          have Y := Lib.hid (KB.made W.out.1 Y9 (Nat.le_refl _) hbu)
          have V' := Lib.hid (V.out.below W.out.1.lt hbu)
          have W' := Lib.hid (W.out.below hbu (W.out.hB HBW.out))
          have KR' := Lib.hid (HKN.out.keep (fun k hk => hbu.block k (Nat.lt_of_lt_of_le hk (W.out.hB HBW.out))))
          clear st9 Y9 hbu V W HKN HL v4
          have V := V'
          have W := W'
          have KR := KR'
          clear V' W' KR'
          by_cases hn0 : 0 < n
          · have hn0' : (0 : Int) < (n : Int) := by omega
            go_wp2_with fail
            refine (byteK B b bs 32 _ W.out.1 (by have := HFK.out; have := HBS.out; omega) (W.out.hB HBW.out)).mono ?_
            rintro e z2 h_
            obtain rfl := h_.1
            have KR' := Lib.hid (KR.out.keep (fun k hk => h_.2.2.1.block k hk))
            have Y' := Lib.hid (Y.out.ret h_)
            clear KR Y
            have KR := KR'
            have Y := Y'
            clear KR' Y'
            have W' := Lib.hid (W.out.ret h_)
            have V' := Lib.hid (V.out.ret h_)
            clear h_ W V
            have W := W'
            have V := V'
            clear W' V'
            have y9 := Y.out.1
            go_wp2_with (refine wpList_load_box rfl 26 _ rfl Y.out.1 (by rfl) Tryz.underlying26 rfl (by kernel_rfl) ?_)
            refine (IH2.out (bs ++ [32]) _ W.out.1 KR.out (by have := HFK.out; have := HBS.out; simp only [List.length_append, List.length_cons, List.length_nil]; omega) (W.out.hB HBW.out)).mono ?_
            rintro e z3 h_
            obtain rfl := h_.1
            have W' := Lib.hid (W.out.ret h_)
            have V' := Lib.hid (V.out.ret h_)
            clear h_ W V
            have W := W'
            have V := V'
            clear W' V'
            rw [show bs ++ [32] ++ kid.adv = acc ++ [40] ++ Sx.advL (ks.take (n + 1)) by rw [← HNX.out, if_pos hn0]] at W
            clear y9
            go_wp2_with fail
            go_roundw
            case rel => exact ⟨n + 1, by omega, by go_num, W, V⟩
            case measure => simp [intOf]; omega
          · have hn0' : ¬ (0 : Int) < (n : Int) := by omega
            go_wp2_with (refine wpList_load_box rfl 26 _ rfl Y.out.1 (by rfl) Tryz.underlying26 rfl (by kernel_rfl) ?_)
            refine (IH2.out bs _ W.out.1 KR.out (by have := HFK.out; have := HBS.out; omega) (W.out.hB HBW.out)).mono ?_
            rintro e z3 h_
            obtain rfl := h_.1
            have W' := Lib.hid (W.out.ret h_)
            have V' := Lib.hid (V.out.ret h_)
            clear h_ W V
            have W := W'
            have V := V'
            clear W' V'
            rw [show bs ++ kid.adv = acc ++ [40] ++ Sx.advL (ks.take (n + 1)) by rw [← HNX.out, if_neg hn0]; simp] at W
            go_wp2_with fail
            go_roundw
            case rel => exact ⟨n + 1, by omega, by go_num, W, V⟩
            case measure => simp [intOf]; omega
        · have hlt' : ¬ (n : Int) < (ks.length : Int) := by omega
          rw [show ks.take n = ks from List.take_of_length_le (by omega)] at W
          have v4 := V.out.1.cell 4 rfl
          go_wp2_with fail
          refine (byteK B b _ 41 _ W.out.1 (by have := HFM.out; have := advL_len ks (fun k hk => adv_len k); simp only [List.length_append, List.length_cons, List.length_nil]; omega) (W.out.hB HBW.out)).mono ?_
          rintro e z2 h_
          obtain rfl := h_.1
          have W' := Lib.hid (W.out.ret h_)
          have V' := Lib.hid (V.out.ret h_)
          clear h_ W V
          have W := W'
          have V := V'
          clear W' V'
          rw [show acc ++ [40] ++ Sx.advL ks ++ [41] = acc ++ (Sx.mk true vh hi da ks).adv by rw [HA.out]; simp] at W
          go_wp2_with fail
          exact bodyPost_ret (results_none rfl _ _ _) rfl ⟨rfl, W.out.1, W.out.2.1, W.out.2.2.1⟩
end Go.Proofs.YtkbblhioncecmaaGreatDoor
namespace Go.Proofs.YtkbblhioncecmaaGreatDoor
open Go.RowKit
set_option linter.unusedVariables false
set_option linter.unusedSimpArgs false

theorem Bl.isB {B b : Nat} {l : List UInt8} {w : World} (h : Bl B b l w) : Lib.IsBuilder 52 5 B b (Lib.byteCells l) w := by
  obtain ⟨p, v, hp, h1, h2, h3, h4⟩ := h
  rcases hp with rfl | rfl
  · exact .inl ⟨h4, v, h1, by rw [byteCells_length]; exact h2.1, h3⟩
  · exact .inr ⟨h4, v, h1, by rw [byteCells_length]; exact h2.1, h3⟩
theorem Bl.new (w : World) : Bl w.heap.size w.heap.size [] (w.alloc (.cells #[.pointer none, .slice none 0 0] 52)) :=
  ⟨_, _, .inl rfl, heap_alloc_new _ _, OwnR.nil _ _, (fun h => by cases h), Nat.le_refl _⟩
/-- a value's advanced form, or the error -/
def PrintP (s : Sx) (w : World) (e : Ending) (w' : World) : Prop :=
  ∃ (t : ByteArray) (x : Nat), e = .returned (.tuple #[.string t, .int .i64 x]) ∧ t.data.toList = (if s.may then s.adv else []) ∧ x = (if s.may then 0 else 4) ∧ Below w.heap.size w w'
/-- a value's transport form -/
def Sx.pack (s : Sx) : List UInt8 := [123] ++ b64 s.form ++ [125]
theorem wide_broad (s : Sx) : ∀ m, s.wide m = false → s.broad m = false := by
  induction s using Sx.ind with
  | h l hh hi da ks ih =>
    intro m h
    obtain ⟨h1, h2, h3, h4, h5⟩ := wide_no h
    have h2' : ks.length ≤ 700 := h2
    have h3' : hi.length ≤ 5000 := h3
    have h4' : da.length ≤ 5000 := h4
    exact broad_mk h1 h2 (by omega) (by omega) (fun k hk => ih k hk _ (h5 k hk))

set_option maxHeartbeats 4000000 in
set_option maxRecDepth 100000 in
theorem print_any (s : Sx) (v : SV) (w : World) (hr : Rd w v s) (m : Nat) (hw : s.broad m = false) (ht : Tab w) : Calls Tryz.prog 9 #[v.val] w (PrintP s w) := by
  have HR := Lib.hid hr
  have CM := Lib.hid (fun (w' : World) (h : Below w.heap.size w w') => mayB_any s v w' (hr.after h) m hw (ht.after h))
  obtain ⟨my, hmy⟩ : ∃ my, my = s.may := ⟨_, rfl⟩
  have HMY := Lib.hid hmy
  unfold PrintP
  rw [← hmy]
  rw [← hmy] at CM
  clear hr hw ht hmy
  obtain ⟨vl, vh, va1, vn1, vc1, va2, vn2, vc2, va3, vn3, vc3⟩ := v
  unfold SV.val
  show Calls _ _ #[.agg #[.bool vl, .bool vh, .slice va1 vn1 vc1, .slice va2 vn2 vc2, .slice va3 vn3 vc3]] _ _
  have B0 := Lib.hid (show Below w.heap.size w (w.alloc (.cells #[.bool vl, .bool vh, .slice va1 vn1 vc1, .slice va2 vn2 vc2, .slice va3 vn3 vc3] 26)) from (Below.refl _ _).alloc (Nat.le_refl _) _)
  have V := Lib.hid (Box.new w 26 #[.bool vl, .bool vh, .slice va1 vn1 vc1, .slice va2 vn2 vc2, .slice va3 vn3 vc3])
  go_enter Tryz.func9, Tryz.ntmps9
  go_upto_region 1 with fail
  change Code.wp _ _ _ _ (w.alloc (.cells #[.bool vl, .bool vh, .slice va1 vn1 vc1, .slice va2 vn2 vc2, .slice va3 vn3 vc3] 26))
  generalize (w.alloc (.cells #[.bool vl, .bool vh, .slice va1 vn1 vc1, .slice va2 vn2 vc2, .slice va3 vn3 vc3] 26)) = x0 at *
  go_wp2_with (refine wpList_load_box rfl 26 _ rfl V.out (by rfl) Tryz.underlying26 rfl (by kernel_rfl) ?_)
  refine (CM.out _ B0.out).mono ?_
  rintro e w1 ⟨rfl, b1⟩
  have B1 := Lib.hid (B0.out.trans (b1.mono B0.out.size))
  have V' := Lib.hid (V.out.after b1)
  clear b1 V B0 CM
  have V := V'
  clear V'
  cases my with
  | false =>
    go_wp2_with fail
    go_ret2
    exact ⟨⟨#[]⟩, 4, rfl, rfl, rfl, B1.out⟩
  | true =>
    have HFL : Hid (s.form.length ≤ 4096) := Lib.hid (may_parts HMY.out.symm).2.2.2
    have BL := Lib.hid (Bl.new w1)
    have BA := Lib.hid (show Below w1.heap.size w1 (w1.alloc (.cells #[.pointer none, .slice none 0 0] 52)) from (Below.refl _ _).alloc (Nat.le_refl _) _)
    have V' := Lib.hid (V.out.after BA.out)
    have HRK := Lib.hid ((((HR.out.after B1.out).there).mono (ok' := fun k => k < w1.heap.size) (fun k hk => hk.2)).after BA.out)
    clear V
    go_upto_region 4 with fail
    change Code.wp _ _ _ _ (w1.alloc (.cells #[.pointer none, .slice none 0 0] 52))
    generalize (w1.alloc (.cells #[.pointer none, .slice none 0 0] 52)) = x1 at *
    go_wp2_with (refine wpList_load_box rfl 26 _ rfl V'.out (by rfl) Tryz.underlying26 rfl (by kernel_rfl) ?_)
    refine (valueK s w1.heap.size w1.heap.size [] ⟨vl, vh, va1, vn1, vc1, va2, vn2, vc2, va3, vn3, vc3⟩ x1 BL.out HRK.out (by have := HFL.out; simp only [List.length_nil]; omega) (by have := HFL.out; omega) BA.out.size).mono ?_
    rintro e w2 ⟨rfl, bl2, b2, k2⟩
    have BL2 := Lib.hid bl2
    have B2 := Lib.hid (B1.out.trans ((BA.out.trans b2).mono B1.out.size))
    have HZ := Lib.hid (Nat.le_trans BA.out.size b2.size)
    clear bl2 b2 k2 BL BA V' HRK
    go_wp2_with fail
    refine (bldOut w1.heap.size w1.heap.size _ w2 BL2.out.isB HZ.out).mono ?_
    rintro e w3 ⟨rfl, b3⟩
    have B3 := Lib.hid (B2.out.trans (b3.mono B1.out.size))
    clear b3
    go_wp2_with fail
    go_ret2
    exact ⟨_, 0, rfl, by simp, rfl, B3.out⟩

end Go.Proofs.YtkbblhioncecmaaGreatDoor
namespace Go.Proofs.YtkbblhioncecmaaGreatDoor
open Go.RowKit
set_option linter.unusedSimpArgs false
set_option linter.unusedVariables false

def atomS (b : List UInt8) : Sx := .mk false false [] b []
def awL : List UInt8 := [40, 97, 32, 34, 98, 32, 99, 34, 32, 35, 102, 102, 35, 41]
def awS : Sx := .mk true false [] [] [atomS [97], atomS [98, 32, 99], atomS [255]]
theorem nt_atom' {l : List UInt8} {p lv n q : Nat} {r : RV} (hq : skipN l p = q) (h1 : q < l.length) (h2 : begB (l.getD q 0) = true) (h3 : l.getD q 0 ≠ 40) (h4 : l.getD q 0 ≠ 91) (h5 : n + 1 ≤ 512) (hr : nAtom l q (n + 1) = r) : Nt l none p lv n r := by
  subst hq hr
  exact .atom h1 h2 h3 h4 h5
theorem nt_list' {l : List UInt8} {p lv n q m : Nat} {r : RV} (hq : skipN l p = q) (h1 : q < l.length) (h2 : l.getD q 0 = 40) (hm : n + 1 = m) (h3 : m ≤ 512) (h4 : lv ≤ 16) (hr : Nt l (some []) (q + 1) lv m r) : Nt l none p lv n r := by
  subst hq hm
  exact .list h1 h2 h3 h4 hr
theorem nt_more' {l : List UInt8} {p lv n q m p2 n2 : Nat} {acc : List Sx} {v : Sx} {r2 : RV} (hq : skipN l p = q) (h1 : q < l.length) (h2 : l.getD q 0 ≠ 41) (hm : lv + 1 = m) (h3 : Nt l none q m n ⟨v, p2, n2, 0⟩) (h4 : Nt l (some (acc ++ [v])) p2 lv n2 r2) : Nt l (some acc) p lv n r2 := by
  subst hq hm
  exact .more (r := ⟨v, p2, n2, 0⟩) h1 h2 h3 rfl h4
theorem nt_close' {l : List UInt8} {p lv n q q1 : Nat} {acc : List Sx} {v : Sx} (hq : skipN l p = q) (h1 : q < l.length) (h2 : l.getD q 0 = 41) (hq1 : q + 1 = q1) (hv : Sx.mk true false [] [] acc = v) : Nt l (some acc) p lv n ⟨v, q1, n, 0⟩ := by
  subst hq hq1 hv
  exact .close h1 h2
set_option maxRecDepth 100000 in
theorem nt_awake : Nt awL none 0 1 0 ⟨awS, 14, 4, 0⟩ := by
  refine nt_list' (q := 0) (m := 1) (by decide +kernel) (by decide +kernel) (by decide +kernel) rfl (by decide) (by decide) ?_
  refine nt_more' (q := 1) (m := 2) (v := atomS [97]) (p2 := 2) (n2 := 2) (by decide +kernel) (by decide +kernel) (by decide +kernel) rfl (nt_atom' (q := 1) (by decide +kernel) (by decide +kernel) (by decide +kernel) (by decide +kernel) (by decide +kernel) (by decide) (by kernel_rfl)) ?_
  refine nt_more' (q := 3) (m := 2) (v := atomS [98, 32, 99]) (p2 := 8) (n2 := 3) (by decide +kernel) (by decide +kernel) (by decide +kernel) rfl (nt_atom' (q := 3) (by decide +kernel) (by decide +kernel) (by decide +kernel) (by decide +kernel) (by decide +kernel) (by decide) (by kernel_rfl)) ?_
  refine nt_more' (q := 9) (m := 2) (v := atomS [255]) (p2 := 13) (n2 := 4) (by decide +kernel) (by decide +kernel) (by decide +kernel) rfl (nt_atom' (q := 9) (by decide +kernel) (by decide +kernel) (by decide +kernel) (by decide +kernel) (by decide +kernel) (by decide) (by kernel_rfl)) ?_
  exact nt_close' (q := 13) (by decide +kernel) (by decide +kernel) (by decide +kernel) rfl rfl
theorem got_awake {s : Sx} {p x : Nat} (h : GotN (Nt awL none 0 1 0) awL s p x) : s = awS ∧ p = 0 ∧ x = 0 := by
  have h0 : awL.length = 14 := by decide +kernel
  have h1 : skipN awL 14 = 14 := by decide +kernel
  have h2 : awS.may = true := by decide +kernel
  rcases h with ⟨h, _⟩ | ⟨_, r, hr, h⟩
  · omega
  · obtain rfl := hr.det nt_awake
    rcases h with ⟨h, _⟩ | ⟨_, h, _⟩ | ⟨_, _, h, _⟩ | ⟨_, _, _, e1, e2, e3⟩
    · exact absurd rfl h
    · exact absurd h (by show ¬ skipN awL 14 < awL.length; omega)
    · exact absurd (h2.symm.trans h) (by simp)
    · exact ⟨e1, e2, e3⟩
theorem aw_broad : awS.broad 0 = false := by decide +kernel
theorem aw_adv : (if awS.may then awS.adv else []) = awL := by decide +kernel
theorem aw_zero : (if awS.may then 0 else 4) = 0 := by decide +kernel

set_option maxHeartbeats 16000000 in
set_option maxRecDepth 100000 in
theorem awake_any (w : World) (ht : Tab w) : Calls Tryz.prog 4 #[] w fun e w' => e = .returned (.bool true) ∧ Below w.heap.size w w' := by
  have HT := Lib.hid ht
  have B : Below w.heap.size w w := Below.refl _ _
  clear ht
  go_enter Tryz.func4, Tryz.ntmps4
  go_wp2_with fail
  refine (readN_any _ w HT.out).mono ?_
  rintro e x1 ⟨v, s, p, x, hg, rfl, rd, bx1⟩
  obtain ⟨rfl, rfl, rfl⟩ := got_awake hg
  clear hg
  obtain ⟨vl, vh, va1, vn1, vc1, va2, vn2, vc2, va3, vn3, vc3⟩ := v
  have RD := Lib.hid (rd.mono (fun _ _ => trivial))
  clear rd
  replace HT := Lib.hid (HT.out.after bx1)
  replace B := B.trans (bx1.mono B.size)
  clear bx1
  go_upto_region 3 with (refine wpList_store_box (cells := #[.bool vl, .bool vh, .slice va1 vn1 vc1, .slice va2 vn2 vc2, .slice va3 vn3 vc3]) rfl 26 _ _ rfl (Box.new _ _ _) (by rfl) (by rfl) rfl (by kernel_rfl) (by simp [Value.oneCell']) ?_; intro u9 X9 st9)
  have bs2 : Below x1.heap.size x1 u9 := st9.below x1.heap.size x1 (Nat.le_refl _) ((Below.refl _ _).alloc (Nat.le_refl _) _)
  have Y1 := Lib.hid X9
  replace HT := Lib.hid (HT.out.after bs2)
  replace RD := Lib.hid (RD.out.after bs2)
  replace B := B.trans (bs2.mono B.size)
  clear bs2 st9 X9
  generalize u9 = x2 at *
  generalize x1.heap.size = y1 at *
  go_wp2_with (refine wpList_load_box rfl 26 _ rfl Y1.out (by rfl) Tryz.underlying26 rfl (by kernel_rfl) ?_)
  refine (print_any awS ⟨vl, vh, va1, vn1, vc1, va2, vn2, vc2, va3, vn3, vc3⟩ x2 RD.out 0 aw_broad HT.out).mono ?_
  rintro e x8 ⟨t, x, rfl, ht, hx, bx8⟩
  rw [aw_adv] at ht
  rw [aw_zero] at hx
  subst hx
  obtain rfl : t = ⟨#[40, 97, 32, 34, 98, 32, 99, 34, 32, 35, 102, 102, 35, 41]⟩ := by apply ByteArray.ext; apply Array.ext'; exact ht
  clear ht
  replace HT := Lib.hid (HT.out.after bx8)
  replace RD := Lib.hid (RD.out.after bx8)
  replace Y1 := Lib.hid (Y1.out.after bx8)
  replace B := B.trans (bx8.mono B.size)
  clear bx8
  go_wp2_with fail
  go_ret
  exact ⟨rfl, B⟩

end Go.Proofs.YtkbblhioncecmaaGreatDoor

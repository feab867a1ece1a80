import Derived.Test.YtmmkaclmgnpplaaGreatDoorMv2
set_option maxRecDepth 100000
set_option maxHeartbeats 64000000
set_option linter.unusedSimpArgs false
set_option linter.unusedVariables false
namespace Go.Proofs.YtmmkaclmgnpplaaGreatDoor
open Go.RowKit
theorem jl (V E : Nat) (w : World) :
  CallsD Tryz.prog 29 #[.pointer (some ⟨V, 0, none⟩), .pointer (some ⟨E, 0, none⟩)] .returning w fun e u' w' => e = .returned (.tuple #[]) ∧ u' = .returning ∧ w' = w := by
 refine callsD_of_wpS Tryz.func29 rfl fun c₀ cs hu => ?_
 apply wpS_seq
 apply wpS_region
 simp [wpOpsS, go_sem, recoverD, hu, Tryz.ntmps29, Exit.thenS]
 refine wpS_of_wp ?_
 go_wp2_with fail
 cases c₀
 simp_all [bodyPostS, results, Tryz.results29]
theorem pV (V E : Nat) (older : List PanicEntry) (w : World) (vc : Array Value) (hV : Box w V 29 vc) (FZ : vc.size = 10) (z2 : Int) (hE : Box w E 39 #[.int .i64 z2]) (DC : V ≠ E) :
  CallsD Tryz.prog 29 #[.pointer (some ⟨V, 0, none⟩), .pointer (some ⟨E, 0, none⟩)] (.panicking ({ v := .iface 51 (.agg #[]), recovered := false } :: older)) w fun e u' w' =>
   e = .returned (.tuple #[]) ∧ u' = .panicking ({ v := .iface 51 (.agg #[]), recovered := true } :: older) ∧ Box w' V 29 #[.int .u8 0, .slice none 0 0, .slice none 0 0, .int .u8 0, .bool false, .bool false, .slice none 0 0, .bool false, .bool false, .slice none 0 0] ∧ Box w' E 39 #[.int .i64 4] ∧ But (fun k => k = V ∨ k = E) w w' := by
 refine callsD_of_wpS Tryz.func29 rfl fun c₀ cs hu => ?_
 have HV := I5 hV
 have HE := I5 hE
 have Gz := I5 FZ
 have Iu : ∀ w, (Instr.typeAssert (.iface 51 (.agg #[])) 20 51 true).run Tryz.prog w = .ok (.tuple #[.agg #[], .bool true]) w := fun _ => by kernel_rfl
 apply wpS_seq
 apply wpS_region
 simp [wpOpsS, go_sem, recoverD, hu, Tryz.ntmps29, Exit.thenS]
 refine wpS_of_wp ?_
 have Y0 := Box.new w 51 #[]
 have IT := hV.lt
 have IV := hE.lt
 clear hV hE FZ
 change Code.wp _ _ _ { tmps := #[.pointer (some ⟨V, 0, none⟩), .pointer (some ⟨E, 0, none⟩), .iface 51 (.agg #[]), undef, undef, .iface 51 (.agg #[]), undef, undef, undef, undef, undef, undef, undef, undef, undef, undef, undef], defers := [] } w
 go_upto_region 3 with (refine ac (cells := #[]) rfl 51 _ _ rfl Y0 (by rfl) (by rfl) rfl (by kernel_rfl) (by simp [Value.oneCell']) ?_; intro u8 X8 st8)
 have er : Hid (But (fun _ => False) w u8) := I5 (But.ofBelow (st8.below w.heap.size w (Nat.le_refl _) ((Below.refl _ _).alloc (Nat.le_refl _) _)))
 replace HV := I5 (er.out.box HV.out (fun h => h))
 replace HE := I5 (er.out.box HE.out (fun h => h))
 clear st8 Y0 X8
 go_wp2_with (refine ac (cells := #[.int .u8 0, .slice none 0 0, .slice none 0 0, .int .u8 0, .bool false, .bool false, .slice none 0 0, .bool false, .bool false, .slice none 0 0]) rfl 29 _ _ rfl HV.out (by rfl) (by rfl) (by have := Gz.out; simpa using this) (by kernel_rfl) (by simp [Value.oneCell']) ?_; intro u9 X9 st9; have e9 := (st9.box HE.out (fun e => DC e.symm)).cell 0 rfl; have fe9 := (st9.box HE.out (fun e => DC e.symm)).frozen 0)
 have b9 : But (fun k => k = V) u8 u9 := But.ofStored st9 (st9.below 0 u8 (Nat.zero_le _) (Below.refl _ _))
 have E9 := (st9.box HE.out (fun e => DC e.symm)).set 0 (.int .i64 4)
 have V9 := X9.far ⟨E, 0, none⟩ (.int .i64 4) DC
 have B9 : But (fun k => k = V ∨ k = E) w (u9.setCell ⟨E, 0, none⟩ (.int .i64 4)) := (((er.out.mono (fun k hk => hk.elim)).trans b9 (fun k hk => .inl (.inl hk))).setCell (p := ⟨E, 0, none⟩) (.inl (.inr rfl)) _)
 generalize (u9.setCell ⟨E, 0, none⟩ (.int .i64 4)) = u7 at *
 replace E9 : Box u7 E 39 #[.int .i64 4] := E9
 clear HV HE er st9 X9 e9 fe9 b9 Gz
 cases c₀
 simp_all [bodyPostS, results, Tryz.results29]
def zeroT : Tg := .mk 0 [] [] noR
def MR (a b t : Tg) (x : Nat) : Prop := ((a.may && b.may) = false ∧ x = 13 ∧ t = zeroT) ∨ ((a.may && b.may) = true ∧ meetF (a.count + b.count) a b 0 = none ∧ x = 4 ∧ t = zeroT) ∨ ((a.may && b.may) = true ∧ (∃ q, meetF (a.count + b.count) a b 0 = some (t, q)) ∧ x = 0)
def MeetR (a b : Tg) (w : World) (e : Ending) (w' : World) : Prop := ∃ (u : TV) (x : Nat) (t : Tg), MR a b t x ∧ e = .returned (.tuple #[u.val, .int .i64 x]) ∧ RdT (fun b => w.heap.size ≤ b) w' u t ∧ Below w.heap.size w w'
theorem xz (a b : Tg) (va vb : TV) (w : World) (ha : RdT (fun _ => True) w va a) (hb : RdT (fun _ => True) w vb b) (FX : a.wide 0 = false) (FW : b.wide 0 = false) (ht : Tab w) :
  Calls Tryz.prog 13 #[va.val, vb.val] w (MeetR a b w) := by
 have RA := I5 ha
 have RB := I5 hb
 have HT := I5 ht
 have Gy := I5 FX
 have Gx := I5 FW
 clear ha hb ht FX FW
 have Dv : ∀ (fn : Fn) (first cap : Array Value) (w : World), (Instr.makeFunc fn first cap).run Tryz.prog w = .ok (.func fn first cap) w := fun _ _ _ _ => rfl
 obtain ⟨du, eJ, dV, eI, eU, dN, eT, ao, dZ, dY, eF, ek, eE, d8, d7, eH, em, eG⟩ := va
 obtain ⟨dU, ej, fd, ft, fI, eS, fH, bo, eB, eA, fm, fe, fk, eD, eC, fq, ff, fp⟩ := vb
 let x0 := ((((w.alloc (.cells #[.int .u8 du, .slice eJ dV eI, .slice eU dN eT, .int .u8 ao, .bool dZ, .bool dY, .slice eF ek eE, .bool d8, .bool d7, .slice eH em eG] 29)).alloc (.cells #[.int .u8 dU, .slice ej fd ft, .slice fI eS fH, .int .u8 bo, .bool eB, .bool eA, .slice fm fe fk, .bool eD, .bool eC, .slice fq ff fp] 29)).alloc (.cells #[.int .u8 0, .slice none 0 0, .slice none 0 0, .int .u8 0, .bool false, .bool false, .slice none 0 0, .bool false, .bool false, .slice none 0 0] 29)).alloc (.cells #[.int .i64 0] 39))
 have B : Below w.heap.size w x0 := ((((Below.refl _ _).alloc (Nat.le_refl _) _).alloc (by simp [x0, x0]) _).alloc (by simp [x0, x0]; omega) _).alloc (by simp [x0, x0]; omega) _
 have X : Hid (Box x0 w.heap.size 29 #[.int .u8 du, .slice eJ dV eI, .slice eU dN eT, .int .u8 ao, .bool dZ, .bool dY, .slice eF ek eE, .bool d8, .bool d7, .slice eH em eG]) := I5 ((((Box.new _ _ _).alloc _).alloc _).alloc _)
 have Y : Hid (Box x0 (w.heap.size + 1) 29 #[.int .u8 dU, .slice ej fd ft, .slice fI eS fH, .int .u8 bo, .bool eB, .bool eA, .slice fm fe fk, .bool eD, .bool eC, .slice fq ff fp]) := I5 (by
  have := ((Box.new (w.alloc (.cells #[.int .u8 du, .slice eJ dV eI, .slice eU dN eT, .int .u8 ao, .bool dZ, .bool dY, .slice eF ek eE, .bool d8, .bool d7, .slice eH em eG] 29)) 29 #[.int .u8 dU, .slice ej fd ft, .slice fI eS fH, .int .u8 bo, .bool eB, .bool eA, .slice fm fe fk, .bool eD, .bool eC, .slice fq ff fp]).alloc (.cells #[.int .u8 0, .slice none 0 0, .slice none 0 0, .int .u8 0, .bool false, .bool false, .slice none 0 0, .bool false, .bool false, .slice none 0 0] 29)).alloc (.cells #[.int .i64 0] 39)
  simpa [x0] using this)
 have Z : Hid (Box x0 (w.heap.size + 2) 29 #[.int .u8 0, .slice none 0 0, .slice none 0 0, .int .u8 0, .bool false, .bool false, .slice none 0 0, .bool false, .bool false, .slice none 0 0]) := I5 (by
  have := (Box.new ((w.alloc (.cells #[.int .u8 du, .slice eJ dV eI, .slice eU dN eT, .int .u8 ao, .bool dZ, .bool dY, .slice eF ek eE, .bool d8, .bool d7, .slice eH em eG] 29)).alloc (.cells #[.int .u8 dU, .slice ej fd ft, .slice fI eS fH, .int .u8 bo, .bool eB, .bool eA, .slice fm fe fk, .bool eD, .bool eC, .slice fq ff fp] 29)) 29 #[.int .u8 0, .slice none 0 0, .slice none 0 0, .int .u8 0, .bool false, .bool false, .slice none 0 0, .bool false, .bool false, .slice none 0 0]).alloc (.cells #[.int .i64 0] 39)
  simpa [x0] using this)
 have E : Hid (Box x0 (w.heap.size + 3) 39 #[.int .i64 0]) := I5 (by
  have := Box.new (((w.alloc (.cells #[.int .u8 du, .slice eJ dV eI, .slice eU dN eT, .int .u8 ao, .bool dZ, .bool dY, .slice eF ek eE, .bool d8, .bool d7, .slice eH em eG] 29)).alloc (.cells #[.int .u8 dU, .slice ej fd ft, .slice fI eS fH, .int .u8 bo, .bool eB, .bool eA, .slice fm fe fk, .bool eD, .bool eC, .slice fq ff fp] 29)).alloc (.cells #[.int .u8 0, .slice none 0 0, .slice none 0 0, .int .u8 0, .bool false, .bool false, .slice none 0 0, .bool false, .bool false, .slice none 0 0] 29)) 39 #[.int .i64 0]
  simpa [x0] using this)
 simp only [TV.val]
 show Calls _ _ #[.agg #[.int .u8 du, .slice eJ dV eI, .slice eU dN eT, .int .u8 ao, .bool dZ, .bool dY, .slice eF ek eE, .bool d8, .bool d7, .slice eH em eG], .agg #[.int .u8 dU, .slice ej fd ft, .slice fI eS fH, .int .u8 bo, .bool eB, .bool eA, .slice fm fe fk, .bool eD, .bool eC, .slice fq ff fp]] _ _
 go_enter_defers Tryz.func13, Tryz.ntmps13
 go_upto_region 1 with fail
 change Code.wp _ _ _ _ x0
 clear_value x0
 obtain ⟨ma, Ej⟩ : ∃ m, m = a.may := ⟨_, rfl⟩
 obtain ⟨mb, uu⟩ : ∃ m, m = b.may := ⟨_, rfl⟩
 have DJ := I5 Ej
 have DI := I5 uu
 have Bp := I5 (fun w' (h : Below w.heap.size w w') => jQ a ⟨du, eJ, dV, eI, eU, dN, eT, ao, dZ, dY, eF, ek, eE, d8, d7, eH, em, eG⟩ 0 w' ((RA.out.after h).mono (fun _ _ => trivial)) Gy.out (HT.out.after h))
 rw [← Ej] at Bp
 have BP := I5 (fun w' (h : Below w.heap.size w w') => jQ b ⟨dU, ej, fd, ft, fI, eS, fH, bo, eB, eA, fm, fe, fk, eD, eC, fq, ff, fp⟩ 0 w' ((RB.out.after h).mono (fun _ _ => trivial)) Gx.out (HT.out.after h))
 rw [← uu] at BP
 clear Ej uu
 have FQ := E.out.lt
 go_upto_region 2 with fail
 cases ma with
 | false =>
  go_step
  refine bC 8 x0.heap.size x0 (Below.refl _ _) ?_
  simp only [List.take_succ_cons, List.take_zero, List.drop_succ_cons, List.drop_zero]
  refine aU rfl 29 _ rfl X.out (by rfl) X.out.lt Tryz.underlying29 rfl (by kernel_rfl) ?_
  simp only [Act.put, I2, I3, I4]
  refine be rfl 20 #[.agg #[.int .u8 du, .slice eJ dV eI, .slice eU dN eT, .int .u8 ao, .bool dZ, .bool dY, .slice eF ek eE, .bool d8, .bool d7, .slice eH em eG]] (fun w' => by simp [go_sem]) (.bool false) (Nat.le_refl _) (fun w' hw => Bp.out w' (B.trans (hw.mono B.size))) ?_
  simp only [Act.put, I2, I3, I4]
  refine Lk (.bool true) ?_
  simp only [Act.put, I2, I3, I4]
  refine Lk (.bool true) ?_
  simp only [Act.put, I2, I3, I4]
  refine aj rfl ?_
  simp only [Act.put, I2, I3, I4]
  refine aj rfl ?_
  simp only [Act.put, I2, I3, I4]
  refine aj rfl ?_
  simp only [Act.put, I2, I3, I4]
  refine Lk (.bool true) ?_
  simp only [Act.put, I2, I3, I4]
  intro y1 af
  replace X := I5 (X.out.after af)
  replace Y := I5 (Y.out.after af)
  replace Z := I5 (Z.out.after af)
  replace E := I5 (E.out.after af)
  replace B := B.trans (af.mono B.size)
  clear af
  have yw := E.out.lt
  clear Bp BP
  go_wp2_with (refine ac (cells := #[.int .u8 0, .slice none 0 0, .slice none 0 0, .int .u8 0, .bool false, .bool false, .slice none 0 0, .bool false, .bool false, .slice none 0 0]) rfl 29 _ _ rfl Z.out (by rfl) (by rfl) rfl (by kernel_rfl) (by simp [Value.oneCell']) ?_; intro u9 X9 st9; have e9 := (st9.box E.out (by omega)).cell 0 rfl; have fe9 := (st9.box E.out (by omega)).frozen 0)
  have b9 : Below w.heap.size w (u9.setCell ⟨w.heap.size + 1 + 1 + 1, 0, none⟩ (.int .i64 13)) := (st9.below w.heap.size w (by omega) B).setCell (p := ⟨w.heap.size + 1 + 1 + 1, 0, none⟩) (by show w.heap.size ≤ w.heap.size + 1 + 1 + 1; omega) _
  have V9 : Box (u9.setCell ⟨w.heap.size + 1 + 1 + 1, 0, none⟩ (.int .i64 13)) (w.heap.size + 1 + 1) 29 #[.int .u8 0, .slice none 0 0, .slice none 0 0, .int .u8 0, .bool false, .bool false, .slice none 0 0, .bool false, .bool false, .slice none 0 0] := X9.far ⟨w.heap.size + 1 + 1 + 1, 0, none⟩ (.int .i64 13) (by show w.heap.size + 2 ≠ w.heap.size + 1 + 1 + 1; omega)
  have E9 : Box (u9.setCell ⟨w.heap.size + 1 + 1 + 1, 0, none⟩ (.int .i64 13)) (w.heap.size + 1 + 1 + 1) 39 #[.int .i64 13] := (st9.box E.out (by omega)).set 0 (.int .i64 13)
  generalize (u9.setCell ⟨w.heap.size + 1 + 1 + 1, 0, none⟩ (.int .i64 13)) = u8 at *
  have cc0 : u8.cell? ⟨w.heap.size + 1 + 1, 0, none⟩ = some (.int .u8 0) := V9.cell 0 rfl
  have xr : u8.cell? ⟨w.heap.size + 1 + 1, 1, none⟩ = some (.slice none 0 0) := V9.cell 1 rfl
  have xq : u8.cell? ⟨w.heap.size + 1 + 1, 2, none⟩ = some (.slice none 0 0) := V9.cell 2 rfl
  have xp : u8.cell? ⟨w.heap.size + 1 + 1, 3, none⟩ = some (.int .u8 0) := V9.cell 3 rfl
  have cc4 : u8.cell? ⟨w.heap.size + 1 + 1, 4, none⟩ = some (.bool false) := V9.cell 4 rfl
  have cc5 : u8.cell? ⟨w.heap.size + 1 + 1, 5, none⟩ = some (.bool false) := V9.cell 5 rfl
  have cc6 : u8.cell? ⟨w.heap.size + 1 + 1, 6, none⟩ = some (.slice none 0 0) := V9.cell 6 rfl
  have cc7 : u8.cell? ⟨w.heap.size + 1 + 1, 7, none⟩ = some (.bool false) := V9.cell 7 rfl
  have cc8 : u8.cell? ⟨w.heap.size + 1 + 1, 8, none⟩ = some (.bool false) := V9.cell 8 rfl
  have cc9 : u8.cell? ⟨w.heap.size + 1 + 1, 9, none⟩ = some (.slice none 0 0) := V9.cell 9 rfl
  have ce : u8.cell? ⟨w.heap.size + 1 + 1 + 1, 0, none⟩ = some (.int .i64 13) := E9.cell 0 rfl
  refine leaves_cons (f := 29) (args := #[.pointer (some ⟨w.heap.size + 1 + 1, 0, none⟩), .pointer (some ⟨w.heap.size + 1 + 1 + 1, 0, none⟩)]) (by simp) (by simp [go_sem]) ?_
  refine (jl _ _ _).mono ?_
  rintro e u' w'' ⟨rfl, rfl, rfl⟩
  simp [Leaves, settle, results, Tryz.results13, go_sem, cc0, xr, xq, xp, cc4, cc5, cc6, cc7, cc8, cc9, ce]
  exact ⟨⟨0, none, 0, 0, none, 0, 0, 0, false, false, none, 0, 0, false, false, none, 0, 0⟩, 13, zeroT, .inl ⟨by rw [← DJ.out, ← DI.out]; rfl, rfl, rfl⟩, rfl, iB _ _ 0 (by omega) none 0 0 [] (Sl.nil _) (.inl rfl), b9⟩
 | true =>
  cases mb with
  | false =>
   go_step
   refine bC 8 x0.heap.size x0 (Below.refl _ _) ?_
   simp only [List.take_succ_cons, List.take_zero, List.drop_succ_cons, List.drop_zero]
   refine aU rfl 29 _ rfl X.out (by rfl) X.out.lt Tryz.underlying29 rfl (by kernel_rfl) ?_
   simp only [Act.put, I2, I3, I4]
   refine be rfl 20 #[.agg #[.int .u8 du, .slice eJ dV eI, .slice eU dN eT, .int .u8 ao, .bool dZ, .bool dY, .slice eF ek eE, .bool d8, .bool d7, .slice eH em eG]] (fun w' => by simp [go_sem]) (.bool true) (Nat.le_refl _) (fun w' hw => Bp.out w' (B.trans (hw.mono B.size))) ?_
   simp only [Act.put, I2, I3, I4]
   refine Lk (.bool false) ?_
   simp only [Act.put, I2, I3, I4]
   refine Lk (.bool false) ?_
   simp only [Act.put, I2, I3, I4]
   refine aU rfl 29 _ rfl Y.out (by rfl) Y.out.lt Tryz.underlying29 rfl (by kernel_rfl) ?_
   simp only [Act.put, I2, I3, I4]
   refine be rfl 20 #[.agg #[.int .u8 dU, .slice ej fd ft, .slice fI eS fH, .int .u8 bo, .bool eB, .bool eA, .slice fm fe fk, .bool eD, .bool eC, .slice fq ff fp]] (fun w' => by simp [go_sem]) (.bool false) (Nat.le_refl _) (fun w' hw => BP.out w' (B.trans (hw.mono B.size))) ?_
   simp only [Act.put, I2, I3, I4]
   refine Lk (.bool true) ?_
   simp only [Act.put, I2, I3, I4]
   refine Lk (.bool true) ?_
   simp only [Act.put, I2, I3, I4]
   intro y1 af
   replace X := I5 (X.out.after af)
   replace Y := I5 (Y.out.after af)
   replace Z := I5 (Z.out.after af)
   replace E := I5 (E.out.after af)
   replace B := B.trans (af.mono B.size)
   clear af
   have yw := E.out.lt
   clear Bp BP
   go_wp2_with (refine ac (cells := #[.int .u8 0, .slice none 0 0, .slice none 0 0, .int .u8 0, .bool false, .bool false, .slice none 0 0, .bool false, .bool false, .slice none 0 0]) rfl 29 _ _ rfl Z.out (by rfl) (by rfl) rfl (by kernel_rfl) (by simp [Value.oneCell']) ?_; intro u9 X9 st9; have e9 := (st9.box E.out (by omega)).cell 0 rfl; have fe9 := (st9.box E.out (by omega)).frozen 0)
   have b9 : Below w.heap.size w (u9.setCell ⟨w.heap.size + 1 + 1 + 1, 0, none⟩ (.int .i64 13)) := (st9.below w.heap.size w (by omega) B).setCell (p := ⟨w.heap.size + 1 + 1 + 1, 0, none⟩) (by show w.heap.size ≤ w.heap.size + 1 + 1 + 1; omega) _
   have V9 : Box (u9.setCell ⟨w.heap.size + 1 + 1 + 1, 0, none⟩ (.int .i64 13)) (w.heap.size + 1 + 1) 29 #[.int .u8 0, .slice none 0 0, .slice none 0 0, .int .u8 0, .bool false, .bool false, .slice none 0 0, .bool false, .bool false, .slice none 0 0] := X9.far ⟨w.heap.size + 1 + 1 + 1, 0, none⟩ (.int .i64 13) (by show w.heap.size + 2 ≠ w.heap.size + 1 + 1 + 1; omega)
   have E9 : Box (u9.setCell ⟨w.heap.size + 1 + 1 + 1, 0, none⟩ (.int .i64 13)) (w.heap.size + 1 + 1 + 1) 39 #[.int .i64 13] := (st9.box E.out (by omega)).set 0 (.int .i64 13)
   generalize (u9.setCell ⟨w.heap.size + 1 + 1 + 1, 0, none⟩ (.int .i64 13)) = u8 at *
   have cc0 : u8.cell? ⟨w.heap.size + 1 + 1, 0, none⟩ = some (.int .u8 0) := V9.cell 0 rfl
   have xr : u8.cell? ⟨w.heap.size + 1 + 1, 1, none⟩ = some (.slice none 0 0) := V9.cell 1 rfl
   have xq : u8.cell? ⟨w.heap.size + 1 + 1, 2, none⟩ = some (.slice none 0 0) := V9.cell 2 rfl
   have xp : u8.cell? ⟨w.heap.size + 1 + 1, 3, none⟩ = some (.int .u8 0) := V9.cell 3 rfl
   have cc4 : u8.cell? ⟨w.heap.size + 1 + 1, 4, none⟩ = some (.bool false) := V9.cell 4 rfl
   have cc5 : u8.cell? ⟨w.heap.size + 1 + 1, 5, none⟩ = some (.bool false) := V9.cell 5 rfl
   have cc6 : u8.cell? ⟨w.heap.size + 1 + 1, 6, none⟩ = some (.slice none 0 0) := V9.cell 6 rfl
   have cc7 : u8.cell? ⟨w.heap.size + 1 + 1, 7, none⟩ = some (.bool false) := V9.cell 7 rfl
   have cc8 : u8.cell? ⟨w.heap.size + 1 + 1, 8, none⟩ = some (.bool false) := V9.cell 8 rfl
   have cc9 : u8.cell? ⟨w.heap.size + 1 + 1, 9, none⟩ = some (.slice none 0 0) := V9.cell 9 rfl
   have ce : u8.cell? ⟨w.heap.size + 1 + 1 + 1, 0, none⟩ = some (.int .i64 13) := E9.cell 0 rfl
   refine leaves_cons (f := 29) (args := #[.pointer (some ⟨w.heap.size + 1 + 1, 0, none⟩), .pointer (some ⟨w.heap.size + 1 + 1 + 1, 0, none⟩)]) (by simp) (by simp [go_sem]) ?_
   refine (jl _ _ _).mono ?_
   rintro e u' w'' ⟨rfl, rfl, rfl⟩
   simp [Leaves, settle, results, Tryz.results13, go_sem, cc0, xr, xq, xp, cc4, cc5, cc6, cc7, cc8, cc9, ce]
   exact ⟨⟨0, none, 0, 0, none, 0, 0, 0, false, false, none, 0, 0, false, false, none, 0, 0⟩, 13, zeroT, .inl ⟨by rw [← DJ.out, ← DI.out]; rfl, rfl, rfl⟩, rfl, iB _ _ 0 (by omega) none 0 0 [] (Sl.nil _) (.inl rfl), b9⟩
  | true =>
   go_step
   refine bC 8 x0.heap.size x0 (Below.refl _ _) ?_
   simp only [List.take_succ_cons, List.take_zero, List.drop_succ_cons, List.drop_zero]
   refine aU rfl 29 _ rfl X.out (by rfl) X.out.lt Tryz.underlying29 rfl (by kernel_rfl) ?_
   simp only [Act.put, I2, I3, I4]
   refine be rfl 20 #[.agg #[.int .u8 du, .slice eJ dV eI, .slice eU dN eT, .int .u8 ao, .bool dZ, .bool dY, .slice eF ek eE, .bool d8, .bool d7, .slice eH em eG]] (fun w' => by simp [go_sem]) (.bool true) (Nat.le_refl _) (fun w' hw => Bp.out w' (B.trans (hw.mono B.size))) ?_
   simp only [Act.put, I2, I3, I4]
   refine Lk (.bool false) ?_
   simp only [Act.put, I2, I3, I4]
   refine Lk (.bool false) ?_
   simp only [Act.put, I2, I3, I4]
   refine aU rfl 29 _ rfl Y.out (by rfl) Y.out.lt Tryz.underlying29 rfl (by kernel_rfl) ?_
   simp only [Act.put, I2, I3, I4]
   refine be rfl 20 #[.agg #[.int .u8 dU, .slice ej fd ft, .slice fI eS fH, .int .u8 bo, .bool eB, .bool eA, .slice fm fe fk, .bool eD, .bool eC, .slice fq ff fp]] (fun w' => by simp [go_sem]) (.bool true) (Nat.le_refl _) (fun w' hw => BP.out w' (B.trans (hw.mono B.size))) ?_
   simp only [Act.put, I2, I3, I4]
   refine Lk (.bool false) ?_
   simp only [Act.put, I2, I3, I4]
   refine Lk (.bool false) ?_
   simp only [Act.put, I2, I3, I4]
   intro y1 af
   replace X := I5 (X.out.after af)
   replace Y := I5 (Y.out.after af)
   replace Z := I5 (Z.out.after af)
   replace E := I5 (E.out.after af)
   replace B := B.trans (af.mono B.size)
   clear af
   have yw := E.out.lt
   clear Bp BP
   have FA := I5 (Fit.of_may Gy.out DJ.out.symm)
   have FB := I5 (Fit.of_may Gx.out DI.out.symm)
   have GG : Hid ((a.may && b.may) = true) := I5 (by rw [← DJ.out, ← DI.out]; rfl)
   have cm : Below y1.heap.size y1 (y1.alloc (.cells #[.int .i64 0] 56)) := (Below.refl _ _).alloc (Nat.le_refl _) _
   have G := I5 (Box.new y1 56 #[.int .i64 0])
   have up := B.size
   have HM := I5 (oN (a.count + b.count) a b 0 ⟨du, eJ, dV, eI, eU, dN, eT, ao, dZ, dY, eF, ek, eE, d8, d7, eH, em, eG⟩ ⟨dU, ej, fd, ft, fI, eS, fH, bo, eB, eA, fm, fe, fk, eD, eC, fq, ff, fp⟩ (y1.alloc (.cells #[.int .i64 0] 56)) y1.heap.size (fun b => b < w.heap.size) (Nat.le_refl _) FA.out FB.out ⟨G.out, Nat.zero_le _, TabX.new HT.out (B.trans (cm.mono B.size)) (fun k hk => by omega), fun b hb => Nat.lt_of_lt_of_le hb (Nat.le_trans B.size cm.size), fun h => by have h1 : y1.heap.size < w.heap.size := h; omega⟩ ((RA.out.there.mono (fun _ h => h.2)).after (B.trans (cm.mono B.size))) ((RB.out.there.mono (fun _ h => h.2)).after (B.trans (cm.mono B.size))))
   replace X := I5 (X.out.after cm)
   replace Y := I5 (Y.out.after cm)
   replace Z := I5 (Z.out.after cm)
   replace E := I5 (E.out.after cm)
   have BC := B.trans (cm.mono B.size)
   have vv := cm.size
   clear cm
   go_wp2_with first | (refine ab rfl 29 _ rfl X.out (by rfl) Tryz.underlying29 rfl (by kernel_rfl) ?_) | (refine ab rfl 29 _ rfl Y.out (by rfl) Tryz.underlying29 rfl (by kernel_rfl) ?_)
   refine HM.out.mono ?_
   rintro e w2 (⟨hr, rfl, q, hm⟩ | ⟨t, q, u, hr, hq, rfl, rt, hm⟩)
   ·have HR := I5 hr
    have B2 := hm.below BC (by omega)
    have Z2 := hm.far Z.out (by omega)
    have E2 := hm.far E.out (by omega)
    clear hr HM
    unfold LongE
    refine leaves_cons (f := 29) (args := #[.pointer (some ⟨w.heap.size + 1 + 1, 0, none⟩), .pointer (some ⟨w.heap.size + 1 + 1 + 1, 0, none⟩)]) (by simp) (by simp [go_sem]) ?_
    refine (pV (w.heap.size + 1 + 1) (w.heap.size + 1 + 1 + 1) [] w2 #[.int .u8 0, .slice none 0 0, .slice none 0 0, .int .u8 0, .bool false, .bool false, .slice none 0 0, .bool false, .bool false, .slice none 0 0] Z2 rfl 0 E2 (by omega)).mono ?_
    rintro e u' u8 ⟨rfl, rfl, V9, E9, b2⟩
    have b9 : Below w.heap.size w u8 := b2.after B2 B2.size (fun k hk => by omega)
    have cc0 : u8.cell? ⟨w.heap.size + 1 + 1, 0, none⟩ = some (.int .u8 0) := V9.cell 0 rfl
    have xr : u8.cell? ⟨w.heap.size + 1 + 1, 1, none⟩ = some (.slice none 0 0) := V9.cell 1 rfl
    have xq : u8.cell? ⟨w.heap.size + 1 + 1, 2, none⟩ = some (.slice none 0 0) := V9.cell 2 rfl
    have xp : u8.cell? ⟨w.heap.size + 1 + 1, 3, none⟩ = some (.int .u8 0) := V9.cell 3 rfl
    have cc4 : u8.cell? ⟨w.heap.size + 1 + 1, 4, none⟩ = some (.bool false) := V9.cell 4 rfl
    have cc5 : u8.cell? ⟨w.heap.size + 1 + 1, 5, none⟩ = some (.bool false) := V9.cell 5 rfl
    have cc6 : u8.cell? ⟨w.heap.size + 1 + 1, 6, none⟩ = some (.slice none 0 0) := V9.cell 6 rfl
    have cc7 : u8.cell? ⟨w.heap.size + 1 + 1, 7, none⟩ = some (.bool false) := V9.cell 7 rfl
    have cc8 : u8.cell? ⟨w.heap.size + 1 + 1, 8, none⟩ = some (.bool false) := V9.cell 8 rfl
    have cc9 : u8.cell? ⟨w.heap.size + 1 + 1, 9, none⟩ = some (.slice none 0 0) := V9.cell 9 rfl
    have ce : u8.cell? ⟨w.heap.size + 1 + 1 + 1, 0, none⟩ = some (.int .i64 4) := E9.cell 0 rfl
    simp [Leaves, settle, results, Tryz.results13, go_sem, cc0, xr, xq, xp, cc4, cc5, cc6, cc7, cc8, cc9, ce]
    exact ⟨⟨0, none, 0, 0, none, 0, 0, 0, false, false, none, 0, 0, false, false, none, 0, 0⟩, 4, zeroT, .inr (.inl ⟨GG.out, HR.out, rfl, rfl⟩), rfl, iB _ _ 0 (by omega) none 0 0 [] (Sl.nil _) (.inl rfl), b9⟩
   have HR := I5 hr
   have vn := I5 (ef _ _ _ _ _ _ FA.out FB.out hr)
   have RT := I5 rt
   have B2 := hm.below BC (by omega)
   replace Z := I5 (hm.far Z.out (by omega))
   replace E := I5 (hm.far E.out (by omega))
   have A7 := I5 (E.out.lt)
   clear hr rt hm HM X Y G
   obtain ⟨gZ, gB, gz, gA, gT, gR, fZ, uo, eu, et, eY, eW, eX, fa, eZ, fw, fu, fv⟩ := u
   simp only [TV.val]
   go_wp2_with fail
   refine (sd t ⟨gZ, gB, gz, gA, gT, gR, fZ, uo, eu, et, eY, eW, eX, fa, eZ, fw, fu, fv⟩ w2 0 (RT.out.mono (fun _ _ => trivial)) (vn.out.wide 0 (by omega))).mono ?_
   rintro e w3 ⟨⟨jz, jw, ju, jv, kA, kg, kz, zo, kk, ki, ko, kj, km, kw, ku, ky, kv, kx⟩, rfl, rz, bK⟩
   have RZ := I5 rz
   simp only [TV.val]
   have B3 := B2.trans (bK.mono B2.size)
   replace Z := I5 (Z.out.after bK)
   replace E := I5 (E.out.after bK)
   have xD := E.out.lt
   have m3 : w.heap.size + 3 < w2.heap.size := by have := A7.out; omega
   clear rz RT bK
   go_wp2_with (refine ac (cells := #[.int .u8 jz, .slice jw ju jv, .slice kA kg kz, .int .u8 zo, .bool kk, .bool ki, .slice ko kj km, .bool kw, .bool ku, .slice ky kv kx]) rfl 29 _ _ rfl Z.out (by rfl) (by rfl) rfl (by kernel_rfl) (by simp [Value.oneCell']) ?_; intro u9 X9 st9; have e9 := (st9.box E.out (by omega)).cell 0 rfl; have fe9 := (st9.box E.out (by omega)).frozen 0)
   have b9 : Below w.heap.size w (u9.setCell ⟨w.heap.size + 1 + 1 + 1, 0, none⟩ (.int .i64 0)) := (st9.below w.heap.size w (by omega) B3).setCell (p := ⟨w.heap.size + 1 + 1 + 1, 0, none⟩) (by show w.heap.size ≤ w.heap.size + 1 + 1 + 1; omega) _
   have V9 : Box (u9.setCell ⟨w.heap.size + 1 + 1 + 1, 0, none⟩ (.int .i64 0)) (w.heap.size + 1 + 1) 29 #[.int .u8 jz, .slice jw ju jv, .slice kA kg kz, .int .u8 zo, .bool kk, .bool ki, .slice ko kj km, .bool kw, .bool ku, .slice ky kv kx] := X9.far ⟨w.heap.size + 1 + 1 + 1, 0, none⟩ (.int .i64 0) (by show w.heap.size + 2 ≠ w.heap.size + 1 + 1 + 1; omega)
   have E9 : Box (u9.setCell ⟨w.heap.size + 1 + 1 + 1, 0, none⟩ (.int .i64 0)) (w.heap.size + 1 + 1 + 1) 39 #[.int .i64 0] := (st9.box E.out (by omega)).set 0 (.int .i64 0)
   have R9 : RdT (fun b => w.heap.size ≤ b) (u9.setCell ⟨w.heap.size + 1 + 1 + 1, 0, none⟩ (.int .i64 0)) ⟨jz, jw, ju, jv, kA, kg, kz, zo, kk, ki, ko, kj, km, kw, ku, ky, kv, kx⟩ t := (RZ.out.keep (fun b hb => (Below.heap_setCell _ _ _ _ (by show b ≠ w.heap.size + 1 + 1 + 1; have h1 : w2.heap.size ≤ b := hb; omega)).trans (st9.other b (by have h1 : w2.heap.size ≤ b := hb; omega)))).mono (fun b hb => by have h1 : w2.heap.size ≤ b := hb; show w.heap.size ≤ b; omega)
   generalize (u9.setCell ⟨w.heap.size + 1 + 1 + 1, 0, none⟩ (.int .i64 0)) = u8 at *
   have cc0 : u8.cell? ⟨w.heap.size + 1 + 1, 0, none⟩ = some (.int .u8 jz) := V9.cell 0 rfl
   have xr : u8.cell? ⟨w.heap.size + 1 + 1, 1, none⟩ = some (.slice jw ju jv) := V9.cell 1 rfl
   have xq : u8.cell? ⟨w.heap.size + 1 + 1, 2, none⟩ = some (.slice kA kg kz) := V9.cell 2 rfl
   have xp : u8.cell? ⟨w.heap.size + 1 + 1, 3, none⟩ = some (.int .u8 zo) := V9.cell 3 rfl
   have cc4 : u8.cell? ⟨w.heap.size + 1 + 1, 4, none⟩ = some (.bool kk) := V9.cell 4 rfl
   have cc5 : u8.cell? ⟨w.heap.size + 1 + 1, 5, none⟩ = some (.bool ki) := V9.cell 5 rfl
   have cc6 : u8.cell? ⟨w.heap.size + 1 + 1, 6, none⟩ = some (.slice ko kj km) := V9.cell 6 rfl
   have cc7 : u8.cell? ⟨w.heap.size + 1 + 1, 7, none⟩ = some (.bool kw) := V9.cell 7 rfl
   have cc8 : u8.cell? ⟨w.heap.size + 1 + 1, 8, none⟩ = some (.bool ku) := V9.cell 8 rfl
   have cc9 : u8.cell? ⟨w.heap.size + 1 + 1, 9, none⟩ = some (.slice ky kv kx) := V9.cell 9 rfl
   have ce : u8.cell? ⟨w.heap.size + 1 + 1 + 1, 0, none⟩ = some (.int .i64 0) := E9.cell 0 rfl
   refine leaves_cons (f := 29) (args := #[.pointer (some ⟨w.heap.size + 1 + 1, 0, none⟩), .pointer (some ⟨w.heap.size + 1 + 1 + 1, 0, none⟩)]) (by simp) (by simp [go_sem]) ?_
   refine (jl _ _ _).mono ?_
   rintro e u' w'' ⟨rfl, rfl, rfl⟩
   simp [Leaves, settle, results, Tryz.results13, go_sem, cc0, xr, xq, xp, cc4, cc5, cc6, cc7, cc8, cc9, ce]
   exact ⟨⟨jz, jw, ju, jv, kA, kg, kz, zo, kk, ki, ko, kj, km, kw, ku, ky, kv, kx⟩, 0, t, .inr (.inr ⟨GG.out, ⟨q, HR.out⟩, rfl⟩), rfl, R9, b9⟩
theorem rj (g : Nat) (s : ByteArray) (w : World) (hs : s.size ≤ 100000) (gS : ∀ q, q < s.size → okc (s.data.toList.getD q 0) = true) (hX : Box w g 100 (RdN s 0 0)) : Calls Tryz.prog 62 #[.pointer (some ⟨g, 0, none⟩)] w (ValN (Nt s.data.toList none 0 1 0) g s w) := by
 have AL := hX.lt
 let u0 := (w.alloc (.cells #[.bool false, .bool false, .slice none 0 0, .slice none 0 0, .slice none 0 0] 32))
 have B0 : Below w.heap.size w u0 := (Below.refl _ _).alloc (Nat.le_refl _) _
 have R : Hid (Box u0 w.heap.size 32 #[.bool false, .bool false, .slice none 0 0, .slice none 0 0, .slice none 0 0]) := I5 (Box.new _ _ _)
 have X := I5 (hX.after B0)
 have hz : w.heap.size < (u0).heap.size := R.out.lt
 have U : Hid (But (fun k => k = g) w u0) := I5 (But.ofBelow B0)
 clear hX B0
 go_enter Tryz.func62, Tryz.ntmps62
 go_upto_region 1 with fail
 change Code.wp _ _ _ _ u0
 clear_value u0
 go_wp2_with fail
 refine (qM g s 0 0 1 u0 X.out hs gS (by omega) (by omega) (by omega)).mono ?_
 rintro e w1 ⟨b1, r, hr, ⟨h1, rfl⟩ | ⟨h1, v, rfl, rd, X1⟩⟩
 ·have HR := I5 hr
  have H1 := I5 h1
  have HB := I5 (U.out.trans b1 (fun k hk => .inl hk))
  clear hr h1 b1
  unfold FaultN
  go_wp2_with fail
  exact ⟨rfl, HB.out, r, HR.out, .inl ⟨H1.out, rfl⟩⟩
 ·have HR := I5 hr
  have H1 := I5 h1
  have HB := I5 (U.out.trans b1 (fun k hk => .inl hk))
  have Fm := I5 rd
  have oW := I5 X1
  replace R := I5 (b1.box R.out (by omega))
  have uj := b1.size
  clear hr h1 b1 rd X1
  obtain ⟨vl, vh, a1, n1, c1, a2, n2, c2, a3, n3, c3⟩ := v
  unfold SV.val
  go_wp2_with (refine ac (cells := #[.bool vl, .bool vh, .slice a1 n1 c1, .slice a2 n2 c2, .slice a3 n3 c3]) rfl 32 _ _ rfl R.out (by rfl) (by rfl) rfl (by kernel_rfl) (by simp [Value.oneCell']) ?_; intro u9 X9 st9)
  have b9 : But (fun k => k = w.heap.size) w1 u9 := But.ofStored st9 (st9.below 0 w1 (Nat.zero_le _) (Below.refl _ _))
  exact bodyPost_ret (v := .agg #[.bool vl, .bool vh, .slice a1 n1 c1, .slice a2 n2 c2, .slice a3 n3 c3]) (ae rfl _ _ (by rfl) X9 Tryz.underlying32 rfl (by kernel_rfl)) rfl ⟨HB.out.trans b9 (fun k hk => .inr (by omega)), r, HR.out, .inr ⟨H1.out, ⟨vl, vh, a1, n1, c1, a2, n2, c2, a3, n3, c3⟩, rfl, (Fm.out.but b9 (fun k hk e => by omega)).mono (fun k hk => by omega), b9.box oW.out (by omega)⟩⟩
def ReadS (x : Sx) (w : World) (e : Ending) (w' : World) : Prop :=
 ∃ v : SV, e = .returned (.tuple #[.agg #[.bool v.l, .bool v.h, .slice v.a1 v.n1 v.c1, .slice v.a2 v.n2 v.c2, .slice v.a3 v.n3 v.c3], .int .i64 0, .int .i64 0]) ∧ RdI (fun k => w.heap.size ≤ k) w' v x ∧ Below w.heap.size w w'
theorem ri (s : ByteArray) (r0 : RV) (hn : Nt s.data.toList none 0 1 0 r0) (h0 : r0.e = 0) (oX : s.size ≤ skipN s.data.toList r0.p) (xF : r0.p ≤ s.size) (vr : r0.v.may = true) (yy : r0.v.wide 0 = false) (hs : s.size ≤ 16384) (gS : ∀ q, q < s.size → okc (s.data.toList.getD q 0) = true) (w : World) (ht : Tab w) :
  Calls Tryz.prog 61 #[.string s, .func (.func 62) #[] #[]] w (ReadS r0.v w) := by
 have HL : Hid (s.data.toList.length = s.size) := I5 (by simp)
 have HN := I5 hn
 have H0 := I5 h0
 have GA := I5 oX
 have Id := I5 xF
 have Ii := I5 vr
 have tC := I5 yy
 have zZ := I5 gS
 clear hn h0 oX xF vr yy gS
 have HT := I5 ht
 have Dv : ∀ (fn : Fn) (first cap : Array Value) (w : World), (Instr.makeFunc fn first cap).run Tryz.prog w = .ok (.func fn first cap) w := fun _ _ _ _ => rfl
 let u0 := (((w.alloc (.cells #[.bool false, .bool false, .slice none 0 0, .slice none 0 0, .slice none 0 0] 32)).alloc (.cells #[.int .i64 0] 3)).alloc (.cells #[.int .i64 0] 39))
 have B : Below w.heap.size w u0 := (((Below.refl _ _).alloc (Nat.le_refl _) _).alloc (by simp [u0, u0]) _).alloc (by simp [u0, u0]; omega) _
 have V : Hid (Box u0 w.heap.size 32 #[.bool false, .bool false, .slice none 0 0, .slice none 0 0, .slice none 0 0]) := I5 (((Box.new _ _ _).alloc _).alloc _)
 have A : Hid (Box u0 (w.heap.size + 1) 3 #[.int .i64 0]) := I5 (by
  have := (Box.new (w.alloc (.cells #[.bool false, .bool false, .slice none 0 0, .slice none 0 0, .slice none 0 0] 32)) 3 #[.int .i64 0]).alloc (.cells #[.int .i64 0] 39)
  simpa [u0] using this)
 have E : Hid (Box u0 (w.heap.size + 1 + 1) 39 #[.int .i64 0]) := I5 (by
  have := Box.new ((w.alloc (.cells #[.bool false, .bool false, .slice none 0 0, .slice none 0 0, .slice none 0 0] 32)).alloc (.cells #[.int .i64 0] 3)) 39 #[.int .i64 0]
  simpa [u0] using this)
 have hz : (u0).heap.size = w.heap.size + 3 := by simp [u0, u0]
 have HZ := I5 hz
 clear ht hz
 have hlong' : ¬ (16384 : Int) < (s.size : Int) := by omega
 go_enter_defers Tryz.func61, Tryz.ntmps61
 go_upto_region 1 with fail
 change Code.wp _ _ _ _ u0
 clear_value u0
 go_upto_region 5 with fail
 let u1 := (u0.alloc (.cells #[.string s, .int .i64 0, .int .i64 0] 100))
 have X : Hid (Box u1 u0.heap.size 100 (RdN s 0 0)) := I5 (Box.new _ _ _)
 have ba : Below u0.heap.size u0 u1 := (Below.refl _ _).alloc (Nat.le_refl _) _
 replace V := I5 (V.out.after ba)
 replace A := I5 (A.out.after ba)
 replace E := I5 (E.out.after ba)
 replace B := B.trans (ba.mono B.size)
 have Hp : w.heap.size + 3 ≤ u0.heap.size := by have := HZ.out; omega
 have m7 := X.out.lt
 clear ba
 change Code.wp _ _ _ _ u1
 clear_value u1
 clear HZ
 generalize u0.heap.size = g at *
 go_wp2_with fail
 refine (rj g s u1 (by omega) zZ.out X.out).mono ?_
 rintro e w1 ⟨b1, r, hr, ⟨h1, rfl⟩ | ⟨h1, v, rfl, rd, X1⟩⟩
 ·obtain rfl := hr.det HN.out
  exact absurd H0.out h1
 obtain ⟨vl, vh, a1, n1, c1, a2, n2, c2, a3, n3, c3⟩ := v
 unfold SV.val
 obtain rfl := hr.det HN.out
 have xF := Id.out
 have HR := I5 hr
 have H1 := I5 h1
 replace V := I5 (b1.box V.out (by omega))
 replace A := I5 (b1.box A.out (by omega))
 replace E := I5 (b1.box E.out (by omega))
 have B1 : Below w.heap.size w w1 := b1.after B B.size (fun k hk => by omega)
 have RD := I5 rd
 have X1' := I5 X1
 have uj := b1.size
 clear hr h1 b1 X B rd X1
 go_upto_region 6 with (refine ac (cells := #[.bool vl, .bool vh, .slice a1 n1 c1, .slice a2 n2 c2, .slice a3 n3 c3]) rfl 32 _ _ rfl V.out (by rfl) (by rfl) rfl (by kernel_rfl) (by simp [Value.oneCell']) ?_; intro u5 V5 st5)
 have b5 : But (fun k => k = w.heap.size) w1 u5 := But.ofStored st5 (st5.below 0 w1 (Nat.zero_le _) (Below.refl _ _))
 replace A := I5 (b5.box A.out (by omega))
 replace E := I5 (b5.box E.out (by omega))
 have X5 := I5 (b5.box X1'.out (by omega))
 have RD5 := I5 (RD.out.but b5 (fun k hk => by omega))
 have B5 : Below w.heap.size w u5 := b5.after B1 B1.size (fun k hk => by omega)
 have V5' := I5 V5
 have DR := b5.size
 clear b5 st5 V V5 X1' B1 RD
 go_wp2_with fail
 refine (rX g s r.p r.n u5 X5.out (by omega) xF).mono ?_
 rintro e w6 ⟨b6, ⟨h6, rfl⟩ | ⟨h6, rfl⟩⟩
 ·exact absurd h6 (by have := GA.out; omega)
 replace A := I5 (b6.box A.out (by omega))
 replace E := I5 (b6.box E.out (by omega))
 have V6 := I5 (b6.box V5'.out (by omega))
 have RD6 := I5 (RD5.out.but b6 (fun k hk => by omega))
 have B6 : Below w.heap.size w w6 := b6.after B5 B5.size (fun k hk => by omega)
 have H6 := I5 h6
 have GW := b6.size
 clear b6 h6 V5' RD5 B5 X5
 go_wp2_with (refine ab rfl 32 _ rfl V6.out (by rfl) Tryz.underlying32 rfl (by kernel_rfl) ?_)
 refine (lw r.v ⟨vl, vh, a1, n1, c1, a2, n2, c2, a3, n3, c3⟩ w6 (RD6.out.mono (fun k hk => trivial)) 0 tC.out (HT.out.after B6)).mono ?_
 rintro e w7 ⟨rfl, b7⟩
 replace A := I5 (A.out.after b7)
 replace E := I5 (E.out.after b7)
 have V7 := I5 (V6.out.after b7)
 have RD7 := I5 (RD6.out.after b7)
 have B7 := B6.trans (b7.mono B6.size)
 have GV := b7.size
 clear b7 V6 RD6 B6
 rw [Ii.out]
 go_wp2_with first | (refine ab rfl 32 _ rfl V7.out (by rfl) Tryz.underlying32 rfl (by kernel_rfl) ?_) | (refine ac (cells := #[.bool vl, .bool vh, .slice a1 n1 c1, .slice a2 n2 c2, .slice a3 n3 c3]) rfl 32 _ _ rfl V7.out (by rfl) (by rfl) rfl (by kernel_rfl) (by simp [Value.oneCell']) ?_; intro u9 X9 st9; have a9 := (st9.box A.out (by omega)).cell 0 rfl; have fa9 := (st9.box A.out (by omega)).frozen 0; have e9 := (st9.box E.out (by omega)).cell 0 rfl; have fe9 := (st9.box E.out (by omega)).frozen 0)
 have b59 : But (fun k => k = w.heap.size ∨ k = w.heap.size + 1 ∨ k = w.heap.size + 1 + 1) w7 ((u9.setCell ⟨w.heap.size + 1, 0, none⟩ (.int .i64 0)).setCell ⟨w.heap.size + 1 + 1, 0, none⟩ (.int .i64 0)) := (((But.ofStored st9 (st9.below 0 w7 (Nat.zero_le _) (Below.refl _ _))).mono (fun k hk => .inl hk)).setCell (p := ⟨w.heap.size + 1, 0, none⟩) (.inl (.inr (.inl rfl))) _).setCell (p := ⟨w.heap.size + 1 + 1, 0, none⟩) (.inl (.inr (.inr rfl))) _
 have V9 := (X9.far ⟨w.heap.size + 1, 0, none⟩ (.int .i64 0) (by show w.heap.size ≠ w.heap.size + 1; omega)).far ⟨w.heap.size + 1 + 1, 0, none⟩ (.int .i64 0) (by show w.heap.size ≠ w.heap.size + 1 + 1; omega)
 have A9 : Box ((u9.setCell ⟨w.heap.size + 1, 0, none⟩ (.int .i64 0)).setCell ⟨w.heap.size + 1 + 1, 0, none⟩ (.int .i64 0)) (w.heap.size + 1) 3 #[.int .i64 0] := ((st9.box A.out (by omega)).set 0 (.int .i64 0)).far ⟨w.heap.size + 1 + 1, 0, none⟩ (.int .i64 0) (by show w.heap.size + 1 ≠ w.heap.size + 1 + 1; omega)
 have E9 : Box ((u9.setCell ⟨w.heap.size + 1, 0, none⟩ (.int .i64 0)).setCell ⟨w.heap.size + 1 + 1, 0, none⟩ (.int .i64 0)) (w.heap.size + 1 + 1) 39 #[.int .i64 0] := ((st9.box E.out (by omega)).far ⟨w.heap.size + 1, 0, none⟩ (.int .i64 0) (by show w.heap.size + 1 + 1 ≠ w.heap.size + 1; omega)).set 0 (.int .i64 0)
 generalize ((u9.setCell ⟨w.heap.size + 1, 0, none⟩ (.int .i64 0)).setCell ⟨w.heap.size + 1 + 1, 0, none⟩ (.int .i64 0)) = u8 at *
 have b9 : Below w.heap.size w u8 := b59.after B7 B7.size (fun k hk => by omega)
 have RD9 : RdI (fun k => w.heap.size ≤ k) u8 ⟨vl, vh, a1, n1, c1, a2, n2, c2, a3, n3, c3⟩ r.v := (RD7.out.but b59 (fun k hk e => by omega)).mono (fun k hk => by omega)
 have cc0 : u8.cell? ⟨w.heap.size, 0, none⟩ = some (.bool vl) := V9.cell 0 rfl
 have xr : u8.cell? ⟨w.heap.size, 1, none⟩ = some (.bool vh) := V9.cell 1 rfl
 have xq : u8.cell? ⟨w.heap.size, 2, none⟩ = some (.slice a1 n1 c1) := V9.cell 2 rfl
 have xp : u8.cell? ⟨w.heap.size, 3, none⟩ = some (.slice a2 n2 c2) := V9.cell 3 rfl
 have cc4 : u8.cell? ⟨w.heap.size, 4, none⟩ = some (.slice a3 n3 c3) := V9.cell 4 rfl
 have ca : u8.cell? ⟨w.heap.size + 1, 0, none⟩ = some (.int .i64 0) := A9.cell 0 rfl
 have ce : u8.cell? ⟨w.heap.size + 1 + 1, 0, none⟩ = some (.int .i64 0) := E9.cell 0 rfl
 refine leaves_cons (f := 91) (args := #[.pointer (some ⟨w.heap.size, 0, none⟩), .pointer (some ⟨w.heap.size + 1, 0, none⟩), .pointer (some ⟨w.heap.size + 1 + 1, 0, none⟩)]) (by simp) (by simp [go_sem]) ?_
 refine (vR _ _ _ _).mono ?_
 rintro e u' w'' ⟨rfl, rfl, rfl⟩
 simp [Leaves, settle, results, Tryz.results61, go_sem, cc0, xr, xq, xp, cc4, ca, ce]
 exact ⟨⟨vl, vh, a1, n1, c1, a2, n2, c2, a3, n3, c3⟩, rfl, RD9, b9⟩
theorem tV (s : ByteArray) (r0 : RV) (hn : Nt s.data.toList none 0 1 0 r0) (h0 : r0.e = 0) (oX : s.size ≤ skipN s.data.toList r0.p) (xF : r0.p ≤ s.size) (vr : r0.v.may = true) (yy : r0.v.wide 0 = false) (hs : s.size ≤ 16384) (gS : ∀ q, q < s.size → okc (s.data.toList.getD q 0) = true) (w : World) (ht : Tab w) : Calls Tryz.prog 34 #[.string s] w (ReadS r0.v w) := by
 let u0 := (w.alloc (.cells #[.bool false, .bool false, .slice none 0 0, .slice none 0 0, .slice none 0 0] 32))
 have R : Hid (Box u0 w.heap.size 32 #[.bool false, .bool false, .slice none 0 0, .slice none 0 0, .slice none 0 0]) := I5 (Box.new _ _ _)
 have B0 : Below w.heap.size w u0 := (Below.refl _ _).alloc (Nat.le_refl _) _
 have CA := I5 (fun w' h => ri s r0 hn h0 oX xF vr yy hs gS w' h)
 have HT := I5 (ht.after B0)
 clear ht hn h0 oX xF vr yy gS
 go_enter Tryz.func34, Tryz.ntmps34
 go_upto_region 1 with fail
 change Code.wp _ _ _ _ u0
 clear_value u0
 go_wp2_with fail
 refine (CA.out u0 HT.out).mono ?_
 rintro e w1 ⟨v, rfl, rd, b1⟩
 obtain ⟨vl, vh, a1, n1, c1, a2, n2, c2, a3, n3, c3⟩ := v
 have Fm := I5 rd
 have mg := B0.size
 have uj := R.out.lt
 replace R := I5 (R.out.after b1)
 have B1 := B0.trans (b1.mono mg)
 clear rd b1
 go_wp2_with (refine ac (cells := #[.bool vl, .bool vh, .slice a1 n1 c1, .slice a2 n2 c2, .slice a3 n3 c3]) rfl 32 _ _ rfl R.out (by rfl) (by rfl) rfl (by kernel_rfl) (by simp [Value.oneCell']) ?_; intro u9 X9 st9)
 have b9 : But (fun k => k = w.heap.size) w1 u9 := But.ofStored st9 (st9.below 0 w1 (Nat.zero_le _) (Below.refl _ _))
 exact bodyPost_ret (v := .tuple #[.agg #[.bool vl, .bool vh, .slice a1 n1 c1, .slice a2 n2 c2, .slice a3 n3 c3], .int .i64 0, .int .i64 0]) (oU (p := 2) (q := 3) (r := 4) rfl _ _ (by rfl) X9 Tryz.underlying32 rfl (by kernel_rfl)) rfl ⟨⟨vl, vh, a1, n1, c1, a2, n2, c2, a3, n3, c3⟩, rfl, (Fm.out.but b9 (fun k hk e => by omega)).mono (fun k hk => by omega), b9.after B1 B1.size (fun k hk => by omega)⟩
theorem lX (l : List UInt8) (r0 : RV) (t9 : Tg) (w : World) (hn : Nt l none 0 1 0 r0) (h0 : r0.e = 0) (oX : l.length ≤ skipN l r0.p) (xF : r0.p ≤ l.length) (vr : r0.v.may = true) (hw : r0.v.wide 0 = false) (hs : l.length ≤ 16384) (gS : ∀ q, q < l.length → okc (l.getD q 0) = true) (hg : GetOk r0.v t9) (ht : Tab w) :
  Calls Tryz.prog 19 #[.string ⟨l.toArray⟩] w (TagP t9 w) := by
 have HT := I5 ht
 have HG := I5 hg
 have HW := I5 hw
 have HM := I5 vr
 have Ic := I5 (fun w' h => tV ⟨l.toArray⟩ r0 hn h0 oX xF vr hw hs gS w' h)
 clear ht hg hw hn h0 oX xF vr hs gS
 let x0 := (w.alloc (.cells #[.int .u8 0, .slice none 0 0, .slice none 0 0, .int .u8 0, .bool false, .bool false, .slice none 0 0, .bool false, .bool false, .slice none 0 0] 29))
 have B : Below w.heap.size w x0 := (Below.refl _ _).alloc (Nat.le_refl _) _
 have Y : Hid (Box x0 w.heap.size 29 #[.int .u8 0, .slice none 0 0, .slice none 0 0, .int .u8 0, .bool false, .bool false, .slice none 0 0, .bool false, .bool false, .slice none 0 0]) := I5 (Box.new _ _ _)
 go_enter Tryz.func19, Tryz.ntmps19
 go_upto_region 1 with fail
 change Code.wp _ _ _ _ x0
 clear_value x0
 go_wp2_with fail
 refine (Ic.out x0 (HT.out.after B)).mono ?_
 rintro e x1 ⟨v, rfl, rd, DE⟩
 obtain ⟨vl, vh, aw, ap, av, aA, aS, az, cM, dO, cz⟩ := v
 have RD := I5 (rd.mono (fun _ _ => trivial))
 clear rd
 replace Y := I5 (Y.out.after DE)
 replace B := B.trans (DE.mono B.size)
 clear DE
 go_upto_region 2 with (refine ac (cells := #[.bool vl, .bool vh, .slice aw ap av, .slice aA aS az, .slice cM dO cz]) rfl 32 _ _ rfl (Box.new _ _ _) (by rfl) (by rfl) rfl (by kernel_rfl) (by simp [Value.oneCell']) ?_; intro u9 X9 st9)
 have bs2 : Below x1.heap.size x1 u9 := st9.below x1.heap.size x1 (Nat.le_refl _) ((Below.refl _ _).alloc (Nat.le_refl _) _)
 have Y1 := I5 X9
 replace Y := I5 (Y.out.after bs2)
 replace RD := I5 (RD.out.after bs2)
 replace B := B.trans (bs2.mono B.size)
 clear bs2 st9 X9
 generalize u9 = x2 at *
 generalize x1.heap.size = y1 at *
 go_wp2_with (refine ab rfl 32 _ rfl Y1.out (by rfl) Tryz.underlying32 rfl (by kernel_rfl) ?_)
 refine (wL r0.v t9 ⟨vl, vh, aw, ap, av, aA, aS, az, cM, dO, cz⟩ x2 RD.out HG.out HM.out HW.out (HT.out.after B)).mono ?_
 rintro e x8 ⟨⟨cS, bR, bN, bP, bQ, bL, bO, Lj, cP, cN, cR, cO, cQ, cW, cT, cY, cU, cX⟩, rfl, rt, Ky⟩
 simp only [TV.val]
 have uk := Y.out.lt
 have RT := I5 rt
 clear rt
 replace Y := I5 (Y.out.after Ky)
 replace RD := I5 (RD.out.after Ky)
 replace Y1 := I5 (Y1.out.after Ky)
 replace B := B.trans (Ky.mono B.size)
 clear Ky
 have RT2 := I5 (RT.out.mono (ok' := fun b => w.heap.size + 1 ≤ b) (fun b hb => by have h1 : x2.heap.size ≤ b := hb; omega))
 clear RT
 go_upto_region 3 with (refine ac (cells := #[.int .u8 cS, .slice bR bN bP, .slice bQ bL bO, .int .u8 Lj, .bool cP, .bool cN, .slice cR cO cQ, .bool cW, .bool cT, .slice cY cU cX]) rfl 29 _ _ rfl (Box.new _ _ _) (by rfl) (by rfl) rfl (by kernel_rfl) (by simp [Value.oneCell']) ?_; intro u9 X9 st9)
 have bs9 : Below x8.heap.size x8 u9 := st9.below x8.heap.size x8 (Nat.le_refl _) ((Below.refl _ _).alloc (Nat.le_refl _) _)
 have Y2 := I5 X9
 replace Y := I5 (Y.out.after bs9)
 replace RD := I5 (RD.out.after bs9)
 replace Y1 := I5 (Y1.out.after bs9)
 replace RT2 := I5 (RT2.out.after bs9)
 replace B := B.trans (bs9.mono B.size)
 clear bs9 st9 X9
 generalize u9 = x9 at *
 generalize x8.heap.size = y2 at *
 go_wp2_with first | (refine ab rfl 29 _ rfl Y2.out (by rfl) Tryz.underlying29 rfl (by kernel_rfl) ?_) | (refine ac (cells := #[.int .u8 cS, .slice bR bN bP, .slice bQ bL bO, .int .u8 Lj, .bool cP, .bool cN, .slice cR cO cQ, .bool cW, .bool cT, .slice cY cU cX]) rfl 29 _ _ rfl Y.out (by rfl) (by rfl) rfl (by kernel_rfl) (by simp [Value.oneCell']) ?_; intro u9 X9 st9)
 have B9 := st9.below w.heap.size w (by omega) B
 have R9 : RdT (fun b => w.heap.size ≤ b) u9 ⟨cS, bR, bN, bP, bQ, bL, bO, Lj, cP, cN, cR, cO, cQ, cW, cT, cY, cU, cX⟩ t9 := (RT2.out.keep (fun b hb => st9.other b (by have h1 : w.heap.size + 1 ≤ b := hb; omega))).mono (fun b hb => by have h1 : w.heap.size + 1 ≤ b := hb; show w.heap.size ≤ b; omega)
 exact bodyPost_ret (v := .agg #[.int .u8 cS, .slice bR bN bP, .slice bQ bL bO, .int .u8 Lj, .bool cP, .bool cN, .slice cR cO cQ, .bool cW, .bool cT, .slice cY cU cX]) (ae rfl _ _ (by rfl) X9 Tryz.underlying29 rfl (by kernel_rfl)) rfl ⟨⟨cS, bR, bN, bP, bQ, bL, bO, Lj, cP, cN, cR, cO, cQ, cW, cT, cY, cU, cX⟩, rfl, R9, B9⟩
def abT : Tg := .mk 2 abL [] noR
def bT : Tg := .mk 2 [98] [] noR
def preT : Tg := .mk 5 [97] [] noR
theorem ka (n : Nat) (a b t : Tg) (p q : Nat) (hp : p < 20000) (h : bothF n a b (p + 1) = some (t, q)) (hm : t.may = true) : meetF (n + 1) a b p = some (t, q) := by
 rw [jk, if_neg (by omega), h]
 show (if t.may = true then _ else _) = _
 rw [if_pos hm]
theorem awA (n p : Nat) (hp : p < 20000) : meetF (n + 1) ftpT ftpT p = some (ftpT, p + 1) := ka n _ _ _ _ _ hp (by rw [cx]; rfl) (by decide +kernel)
theorem awB (n p : Nat) (hp : p < 20000) : meetF (n + 1) preT abT p = some (abT, p + 1) := ka n _ _ _ _ _ hp (by rw [cx]; rfl) (by decide +kernel)
theorem awC (n p : Nat) (hp : p < 20000) : meetF (n + 1) preT bT p = some (noT, p + 1) := ka n _ _ _ _ _ hp (by rw [cx]; rfl) (by decide +kernel)
theorem awD (n p : Nat) (hp : p < 19000) : meetF (n + 2) preT (.mk 4 [] [abT, bT] noR) p = some (abT, p + 3) := ka (n + 1) _ _ _ _ _ (by omega) (by
 rw [cx]
 show (match overF (fun k q => meetF (n + 1) preT k q) [abT, bT] (p + 1) with | none => none | some (l, q) => some (setT l, q)) = _
 simp only [overF]
 rw [awB n (p + 1) (by omega)]
 simp only []
 rw [awC n (p + 1 + 1) (by omega)]
 rfl) (by decide +kernel)
theorem tB : meetF (awPT.count + awST.count) awPT awST 0 = some (.mk 3 [] [ftpT, abT] noR, 5) := by
 show meetF (7 + 1) awPT awST 0 = _
 refine ka 7 _ _ _ _ _ (by omega) ?_ (by decide +kernel)
 rw [cx]
 show (match listF (meetF (5 + 2)) [ftpT, preT] [ftpT, .mk 4 [] [abT, bT] noR] 1 with | none => none | some (none, q) => some (noT, q) | some (some l, q) => some (.mk 3 [] l noR, q)) = _
 simp only [listF]
 rw [awA 6 1 (by omega)]
 simp only [show ftpT.none? = false from rfl, Bool.false_eq_true, if_false]
 rw [awD 5 (1 + 1) (by omega)]
 rfl
theorem zg : (awPT.may && awST.may) = true := by decide +kernel
theorem tA : awPT.wide 0 = false ∧ awST.wide 0 = false := ⟨by decide +kernel, by decide +kernel⟩
theorem C9 {t : Tg} {x : Nat} (h : MR awPT awST t x) : x = 0 ∧ t = .mk 3 [] [ftpT, abT] noR := by
 rcases h with ⟨h, _⟩ | ⟨_, h, _⟩ | ⟨_, ⟨q, h⟩, rfl⟩
 ·rw [zg] at h; cases h
 ·rw [tB] at h; cases h
 ·rw [tB] at h
  cases h
  exact ⟨rfl, rfl⟩
theorem ir (w : World) (ht : Tab w) : Calls Tryz.prog 8 #[] w fun e w' => e = .returned (.bool true) ∧ Below w.heap.size w w' := by
 have HT := I5 ht
 clear ht
 have C1 := I5 (show Calls Tryz.prog 19 #[.string ⟨#[40, 102, 116, 112, 32, 40, 42, 32, 112, 114, 101, 102, 105, 120, 32, 97, 41, 41]⟩] w (TagP awPT w) from lX awPL ⟨awPS, 18, 6, 0⟩ awPT w wj rfl (by decide +kernel) (by decide +kernel) zk xx (by decide) (by decide +kernel) zm HT.out)
 go_enter Tryz.func8, Tryz.ntmps8
 go_wp2_with fail
 refine C1.out.mono ?_
 rintro e x1 ⟨⟨du, eJ, dV, eI, eU, dN, eT, ao, dZ, dY, eF, ek, eE, d8, d7, eH, em, eG⟩, rfl, ra, B⟩
 have RA := I5 ra
 simp only [TV.val]
 clear ra C1
 have C2 := I5 (show Calls Tryz.prog 19 #[.string ⟨#[40, 102, 116, 112, 32, 40, 42, 32, 115, 101, 116, 32, 97, 98, 32, 98, 41, 41]⟩] x1 (TagP awST x1) from lX awSL ⟨awSS, 18, 7, 0⟩ awST x1 wi rfl (by decide +kernel) (by decide +kernel) zi xw (by decide) (by decide +kernel) zj (HT.out.after B))
 go_wp2_with fail
 refine C2.out.mono ?_
 rintro e x2 ⟨⟨dU, ej, fd, ft, fI, eS, fH, bo, eB, eA, fm, fe, fk, eD, eC, fq, ff, fp⟩, rfl, rb, b2⟩
 have RB := I5 rb
 simp only [TV.val]
 replace RA := I5 (RA.out.after b2)
 replace B := B.trans (b2.mono B.size)
 clear rb b2 C2
 have CM := I5 (xz awPT awST ⟨du, eJ, dV, eI, eU, dN, eT, ao, dZ, dY, eF, ek, eE, d8, d7, eH, em, eG⟩ ⟨dU, ej, fd, ft, fI, eS, fH, bo, eB, eA, fm, fe, fk, eD, eC, fq, ff, fp⟩ x2 (RA.out.mono (fun _ _ => trivial)) (RB.out.mono (fun _ _ => trivial)) tA.1 tA.2 (HT.out.after B))
 go_wp2_with fail
 refine CM.out.mono ?_
 rintro e x3 ⟨u, x, t, Gt, rfl, rt, b3⟩
 obtain ⟨rfl, rfl⟩ := C9 Gt
 replace B := B.trans (b3.mono B.size)
 clear Gt b3 CM RA RB
 obtain ⟨⟨cH, -, -, -, -, -, -, -⟩, -, -, -, hn, K, ah, hk⟩ := rt.parts
 have oZ := hk 1 (by decide)
 obtain ⟨⟨rJ, -, -, -, -, -, -, -⟩, an, -⟩ := oZ.parts
 replace ah := I5 ah
 obtain ⟨gZ, gB, gz, gA, gT, gR, fZ, uo, eu, et, eY, eW, eX, fa, eZ, fw, fu, fv⟩ := u
 dsimp only [Tg.kd, Tg.ks, Tg.da, abT] at cH hn ah rJ an
 replace hn : gR = 2 := hn
 replace rJ : (K 1).kd = 2 := rJ
 replace an : Sl x3 (K 1).a1 (K 1).n1 (K 1).c1 abL := an
 subst cH hn
 clear rt hk oZ
 simp only [TV.val]
 obtain ⟨b, o, rfl, a8⟩ := ah.out.range (i := 1) (by omega)
 obtain ⟨v1, ic⟩ : ∃ v1, v1 = K 1 := ⟨_, rfl⟩
 rw [← ic] at a8 rJ an
 obtain ⟨jz, jw, ju, jv, kA, kg, kz, zo, kk, ki, ko, kj, km, kw, ku, ky, kv, kx⟩ := v1
 replace rJ : jz = 2 := rJ
 subst rJ
 clear ic ah K
 have d0 : x3.cell? ⟨b, o + 10, none⟩ = some (.int .u8 ((2 : Nat) : Int)) := a8 0 _ rfl
 have d1 : x3.cell? ⟨b, o + 10 + 1, none⟩ = some (.slice jw ju jv) := a8 1 _ rfl
 clear a8
 have HS := I5 an
 clear an
 have D0 := I5 d0
 have D1 := I5 d1
 have lq := cA d0
 clear d0 d1
 go_upto_region 2 with fail
 let x4 := (x3.alloc (.cells #[.int .u8 ((3 : Nat) : Int), .slice gB gz gA, .slice (some ⟨b, o, none⟩) 2 fZ, .int .u8 uo, .bool eu, .bool et, .slice eY eW eX, .bool fa, .bool eZ, .slice fw fu fv] 29))
 change Code.wp _ _ _ _ x4
 have ca : Below x3.heap.size x3 x4 := (Below.refl _ _).alloc (Nat.le_refl _) _
 have E : Hid (Box x4 x3.heap.size 29 #[.int .u8 ((3 : Nat) : Int), .slice gB gz gA, .slice (some ⟨b, o, none⟩) 2 fZ, .int .u8 uo, .bool eu, .bool et, .slice eY eW eX, .bool fa, .bool eZ, .slice fw fu fv]) := I5 (Box.new _ _ _)
 replace HS := I5 (HS.out.after ca)
 replace D0 := I5 ((World.cell?_of_block (a := ⟨b, o + 10, none⟩) (ca.block b lq)).trans D0.out)
 replace D1 := I5 ((World.cell?_of_block (a := ⟨b, o + 10 + 1, none⟩) (ca.block b lq)).trans D1.out)
 replace B := B.trans (ca.mono B.size)
 have By := ca.size
 clear_value x4
 generalize x3.heap.size = E4 at *
 have CT : b < x4.heap.size := by omega
 clear ca
 go_step
 refine bC 30 x4.heap.size x4 (Below.refl _ _) ?_
 simp only [List.take_succ_cons, List.take_zero, List.drop_succ_cons, List.drop_zero]
 refine Lk (.int .i64 0) ?_
 simp only [Act.put, I2, I3, I4]
 refine Lk (.bool true) ?_
 simp only [Act.put, I2, I3, I4]
 refine Lk (.bool true) ?_
 simp only [Act.put, I2, I3, I4]
 refine Lk (.pointer (some ⟨E4, 0, none⟩)) ?_
 simp only [Act.put, I2, I3, I4]
 refine aa rfl (.int .u8 ((3 : Nat) : Int)) (fun w' hw => by have := (E.out.after hw).cell 0 rfl; simp [go_sem, this]) ?_
 simp only [Act.put, I2, I3, I4]
 refine Lk (.bool true) ?_
 simp only [Act.put, I2, I3, I4]
 refine Lk (.bool true) ?_
 simp only [Act.put, I2, I3, I4]
 refine Lk (.bool true) ?_
 simp only [Act.put, I2, I3, I4]
 refine Lk (.pointer (some ⟨E4, 2, none⟩)) ?_
 simp only [Act.put, I2, I3, I4]
 refine aa rfl (.slice (some ⟨b, o, none⟩) 2 fZ) (fun w' hw => by have := (E.out.after hw).cell 2 rfl; simp [go_sem, this]) ?_
 simp only [Act.put, I2, I3, I4]
 refine Lk (.int .i64 2) ?_
 simp only [Act.put, I2, I3, I4]
 refine Lk (.bool true) ?_
 simp only [Act.put, I2, I3, I4]
 refine Lk (.bool true) ?_
 simp only [Act.put, I2, I3, I4]
 refine Lk (.bool true) ?_
 simp only [Act.put, I2, I3, I4]
 refine Lk (.pointer (some ⟨E4, 2, none⟩)) ?_
 simp only [Act.put, I2, I3, I4]
 refine aa rfl (.slice (some ⟨b, o, none⟩) 2 fZ) (fun w' hw => by have := (E.out.after hw).cell 2 rfl; simp [go_sem, this]) ?_
 simp only [Act.put, I2, I3, I4]
 refine Lk (.pointer (some ⟨b, o + 10, none⟩)) ?_
 simp only [Act.put, I2, I3, I4]
 refine Lk (.pointer (some ⟨b, o + 10, none⟩)) ?_
 simp only [Act.put, I2, I3, I4]
 refine aa rfl (.int .u8 ((2 : Nat) : Int)) (fun w' hw => by have := (World.cell?_of_block (a := ⟨b, o + 10, none⟩) (hw.block b CT)).trans D0.out; simp [go_sem, this]) ?_
 simp only [Act.put, I2, I3, I4]
 refine Lk (.bool true) ?_
 simp only [Act.put, I2, I3, I4]
 refine Lk (.bool true) ?_
 simp only [Act.put, I2, I3, I4]
 refine Lk (.bool true) ?_
 simp only [Act.put, I2, I3, I4]
 refine Lk (.pointer (some ⟨E4, 2, none⟩)) ?_
 simp only [Act.put, I2, I3, I4]
 refine aa rfl (.slice (some ⟨b, o, none⟩) 2 fZ) (fun w' hw => by have := (E.out.after hw).cell 2 rfl; simp [go_sem, this]) ?_
 simp only [Act.put, I2, I3, I4]
 refine Lk (.pointer (some ⟨b, o + 10, none⟩)) ?_
 simp only [Act.put, I2, I3, I4]
 refine Lk (.pointer (some ⟨b, o + 10 + 1, none⟩)) ?_
 simp only [Act.put, I2, I3, I4]
 refine aa rfl (.slice jw ju jv) (fun w' hw => by have := (World.cell?_of_block (a := ⟨b, o + 10 + 1, none⟩) (hw.block b CT)).trans D1.out; simp [go_sem, this]) ?_
 simp only [Act.put, I2, I3, I4]
 refine aa rfl (.string ⟨abL.toArray⟩) (fun w' hw => by have := bv (HS.out.after hw); simp [go_sem, this]) ?_
 simp only [Act.put, I2, I3, I4]
 refine aa rfl (.bool true) (fun w' hw => by simp [go_sem, abL]) ?_
 simp only [Act.put, I2, I3, I4]
 refine Lk (.bool true) ?_
 simp only [Act.put, I2, I3, I4]
 intro y5 Jh
 replace E := I5 (E.out.after Jh)
 replace HS := I5 (HS.out.after Jh)
 replace B := B.trans (Jh.mono B.size)
 clear Jh
 go_wp2_with fail
 go_ret
 exact ⟨rfl, B⟩
theorem uB {t : Tg} (h : t.great 0 = false) (hn : t.count < 4611686018427387904) : t.wide 0 = false ∧ t.count ≤ 1000 := by
 have hw : t.wide 0 = false := by
  cases hw : t.wide 0 with
  | false => rfl
  | true => rw [ms hw] at h; cases h
 rw [lf hw] at h
 have h2 := of_decide_eq_false h
 have : wrap64 (t.count : Int) = t.count := by unfold wrap64; omega
 rw [this] at h2
 exact ⟨hw, by omega⟩

def formT (t : Tg) : Nat := t.value.form.length
def greatB (a b : Tg) : Bool := a.great 0 || b.great 0 || decide (800 < formT a) || decide (800 < formT b)
theorem JJ (a b : Tg) (va vb : TV) (w : World) (ha : RdT (fun _ => True) w va a) (hb : RdT (fun _ => True) w vb b) (Cm : a.count < 4611686018427387904) (ut : b.count < 4611686018427387904) :
  Calls Tryz.prog 11 #[va.val, vb.val] w fun e w' => e = .returned (.bool (greatB a b)) ∧ Below w.heap.size w w' := by
 have RA := I5 ha
 have RB := I5 hb
 have Dg := I5 Cm
 have Df := I5 ut
 clear ha hb Cm ut
 obtain ⟨du, eJ, dV, eI, eU, dN, eT, ao, dZ, dY, eF, ek, eE, d8, d7, eH, em, eG⟩ := va
 obtain ⟨dU, ej, fd, ft, fI, eS, fH, bo, eB, eA, fm, fe, fk, eD, eC, fq, ff, fp⟩ := vb
 obtain ⟨R, hR⟩ : ∃ R, R = greatB a b := ⟨_, rfl⟩
 rw [← hR]
 unfold greatB at hR
 have HD := I5 hR
 clear hR
 obtain ⟨g0, Ez⟩ : ∃ x, x = a.great 0 := ⟨_, rfl⟩
 obtain ⟨g1, m7⟩ : ∃ x, x = b.great 0 := ⟨_, rfl⟩
 have G0 := I5 Ez
 have G1 := I5 m7
 have C0 := I5 (fun w' (h : Below w.heap.size w w') => rP a ⟨du, eJ, dV, eI, eU, dN, eT, ao, dZ, dY, eF, ek, eE, d8, d7, eH, em, eG⟩ 0 w' (RA.out.after h) (by omega))
 have C1 := I5 (fun w' (h : Below w.heap.size w w') => rP b ⟨dU, ej, fd, ft, fI, eS, fH, bo, eB, eA, fm, fe, fk, eD, eC, fq, ff, fp⟩ 0 w' (RB.out.after h) (by omega))
 rw [← Ez] at C0 HD
 rw [← m7] at C1 HD
 clear Ez m7
 let x0 := ((w.alloc (.cells #[.int .u8 du, .slice eJ dV eI, .slice eU dN eT, .int .u8 ao, .bool dZ, .bool dY, .slice eF ek eE, .bool d8, .bool d7, .slice eH em eG] 29)).alloc (.cells #[.int .u8 dU, .slice ej fd ft, .slice fI eS fH, .int .u8 bo, .bool eB, .bool eA, .slice fm fe fk, .bool eD, .bool eC, .slice fq ff fp] 29))
 have B : Below w.heap.size w x0 := ((Below.refl _ _).alloc (Nat.le_refl _) _).alloc (by simp [x0, x0]) _
 have X : Hid (Box x0 w.heap.size 29 #[.int .u8 du, .slice eJ dV eI, .slice eU dN eT, .int .u8 ao, .bool dZ, .bool dY, .slice eF ek eE, .bool d8, .bool d7, .slice eH em eG]) := I5 ((Box.new _ _ _).alloc _)
 have Y : Hid (Box x0 (w.heap.size + 1) 29 #[.int .u8 dU, .slice ej fd ft, .slice fI eS fH, .int .u8 bo, .bool eB, .bool eA, .slice fm fe fk, .bool eD, .bool eC, .slice fq ff fp]) := I5 (by
  have := Box.new (w.alloc (.cells #[.int .u8 du, .slice eJ dV eI, .slice eU dN eT, .int .u8 ao, .bool dZ, .bool dY, .slice eF ek eE, .bool d8, .bool d7, .slice eH em eG] 29)) 29 #[.int .u8 dU, .slice ej fd ft, .slice fI eS fH, .int .u8 bo, .bool eB, .bool eA, .slice fm fe fk, .bool eD, .bool eC, .slice fq ff fp]
  simpa [x0] using this)
 simp only [TV.val]
 show Calls _ _ #[.agg #[.int .u8 du, .slice eJ dV eI, .slice eU dN eT, .int .u8 ao, .bool dZ, .bool dY, .slice eF ek eE, .bool d8, .bool d7, .slice eH em eG], .agg #[.int .u8 dU, .slice ej fd ft, .slice fI eS fH, .int .u8 bo, .bool eB, .bool eA, .slice fm fe fk, .bool eD, .bool eC, .slice fq ff fp]] _ _
 go_enter Tryz.func11, Tryz.ntmps11
 go_upto_region 1 with fail
 change Code.wp _ _ _ _ x0
 clear_value x0
 cases g0 with
 | true =>
  go_step
  refine bC 20 x0.heap.size x0 (Below.refl _ _) ?_
  simp only [List.take_succ_cons, List.take_zero, List.drop_succ_cons, List.drop_zero]
  refine aU rfl 29 _ rfl X.out (by rfl) X.out.lt Tryz.underlying29 rfl (by kernel_rfl) ?_
  simp only [Act.put, I2, I3, I4]
  refine be rfl 6 #[.agg #[.int .u8 du, .slice eJ dV eI, .slice eU dN eT, .int .u8 ao, .bool dZ, .bool dY, .slice eF ek eE, .bool d8, .bool d7, .slice eH em eG], .int .i64 0] (fun w' => by simp [go_sem]) (.bool true) (Nat.le_refl _) (fun w' hw => C0.out w' (B.trans (hw.mono B.size))) ?_
  simp only [Act.put, I2, I3, I4]
  refine Lk (.bool true) ?_
  simp only [Act.put, I2, I3, I4]
  refine aj rfl ?_
  simp only [Act.put, I2, I3, I4]
  refine aj rfl ?_
  simp only [Act.put, I2, I3, I4]
  refine Lk (.bool true) ?_
  simp only [Act.put, I2, I3, I4]
  refine Lk (.bool true) ?_
  simp only [Act.put, I2, I3, I4]
  refine aj rfl ?_
  simp only [Act.put, I2, I3, I4]
  refine aj rfl ?_
  simp only [Act.put, I2, I3, I4]
  refine aj rfl ?_
  simp only [Act.put, I2, I3, I4]
  refine aj rfl ?_
  simp only [Act.put, I2, I3, I4]
  refine aj rfl ?_
  simp only [Act.put, I2, I3, I4]
  refine Lk (.bool true) ?_
  simp only [Act.put, I2, I3, I4]
  refine Lk (.bool true) ?_
  simp only [Act.put, I2, I3, I4]
  refine aj rfl ?_
  simp only [Act.put, I2, I3, I4]
  refine aj rfl ?_
  simp only [Act.put, I2, I3, I4]
  refine aj rfl ?_
  simp only [Act.put, I2, I3, I4]
  refine aj rfl ?_
  simp only [Act.put, I2, I3, I4]
  refine aj rfl ?_
  simp only [Act.put, I2, I3, I4]
  refine Lk (.bool true) ?_
  simp only [Act.put, I2, I3, I4]
  intro y1 af
  replace X := I5 (X.out.after af)
  replace Y := I5 (Y.out.after af)
  replace B := B.trans (af.mono B.size)
  clear af
  go_wp2_with fail
  go_ret
  exact ⟨by rw [HD.out]; rfl, B⟩
 | false =>
  cases g1 with
  | true =>
   go_step
   refine bC 20 x0.heap.size x0 (Below.refl _ _) ?_
   simp only [List.take_succ_cons, List.take_zero, List.drop_succ_cons, List.drop_zero]
   refine aU rfl 29 _ rfl X.out (by rfl) X.out.lt Tryz.underlying29 rfl (by kernel_rfl) ?_
   simp only [Act.put, I2, I3, I4]
   refine be rfl 6 #[.agg #[.int .u8 du, .slice eJ dV eI, .slice eU dN eT, .int .u8 ao, .bool dZ, .bool dY, .slice eF ek eE, .bool d8, .bool d7, .slice eH em eG], .int .i64 0] (fun w' => by simp [go_sem]) (.bool false) (Nat.le_refl _) (fun w' hw => C0.out w' (B.trans (hw.mono B.size))) ?_
   simp only [Act.put, I2, I3, I4]
   refine Lk (.bool false) ?_
   simp only [Act.put, I2, I3, I4]
   refine aU rfl 29 _ rfl Y.out (by rfl) Y.out.lt Tryz.underlying29 rfl (by kernel_rfl) ?_
   simp only [Act.put, I2, I3, I4]
   refine be rfl 6 #[.agg #[.int .u8 dU, .slice ej fd ft, .slice fI eS fH, .int .u8 bo, .bool eB, .bool eA, .slice fm fe fk, .bool eD, .bool eC, .slice fq ff fp], .int .i64 0] (fun w' => by simp [go_sem]) (.bool true) (Nat.le_refl _) (fun w' hw => C1.out w' (B.trans (hw.mono B.size))) ?_
   simp only [Act.put, I2, I3, I4]
   refine Lk (.bool true) ?_
   simp only [Act.put, I2, I3, I4]
   refine Lk (.bool true) ?_
   simp only [Act.put, I2, I3, I4]
   refine aj rfl ?_
   simp only [Act.put, I2, I3, I4]
   refine aj rfl ?_
   simp only [Act.put, I2, I3, I4]
   refine aj rfl ?_
   simp only [Act.put, I2, I3, I4]
   refine aj rfl ?_
   simp only [Act.put, I2, I3, I4]
   refine aj rfl ?_
   simp only [Act.put, I2, I3, I4]
   refine Lk (.bool true) ?_
   simp only [Act.put, I2, I3, I4]
   refine Lk (.bool true) ?_
   simp only [Act.put, I2, I3, I4]
   refine aj rfl ?_
   simp only [Act.put, I2, I3, I4]
   refine aj rfl ?_
   simp only [Act.put, I2, I3, I4]
   refine aj rfl ?_
   simp only [Act.put, I2, I3, I4]
   refine aj rfl ?_
   simp only [Act.put, I2, I3, I4]
   refine aj rfl ?_
   simp only [Act.put, I2, I3, I4]
   refine Lk (.bool true) ?_
   simp only [Act.put, I2, I3, I4]
   intro y1 af
   replace X := I5 (X.out.after af)
   replace Y := I5 (Y.out.after af)
   replace B := B.trans (af.mono B.size)
   clear af
   go_wp2_with fail
   go_ret
   exact ⟨by rw [HD.out]; rfl, B⟩
  | false =>
   obtain ⟨FX, K7⟩ := uB G0.out.symm Dg.out
   obtain ⟨FW, IP⟩ := uB G1.out.symm Df.out
   have Gy := I5 FX
   have Gx := I5 FW
   have Lb := I5 K7
   have La := I5 IP
   clear FX FW K7 IP
   go_wp2_with (refine ab rfl 29 _ rfl X.out (by rfl) Tryz.underlying29 rfl (by kernel_rfl) ?_)
   refine (C0.out x0 B).mono ?_
   rintro e x1 ⟨rfl, DE⟩
   replace X := I5 (X.out.after DE)
   replace Y := I5 (Y.out.after DE)
   replace B := B.trans (DE.mono B.size)
   clear DE
   clear C0
   go_wp2_with (refine ab rfl 29 _ rfl Y.out (by rfl) Tryz.underlying29 rfl (by kernel_rfl) ?_)
   refine (C1.out x1 B).mono ?_
   rintro e x2 ⟨rfl, Jn⟩
   replace X := I5 (X.out.after Jn)
   replace Y := I5 (Y.out.after Jn)
   replace B := B.trans (Jn.mono B.size)
   clear Jn
   clear C1
   go_wp2_with (refine ab rfl 29 _ rfl X.out (by rfl) Tryz.underlying29 rfl (by kernel_rfl) ?_)
   refine (I6 a ⟨du, eJ, dV, eI, eU, dN, eT, ao, dZ, dY, eF, ek, eE, d8, d7, eH, em, eG⟩ 0 x2.heap.size x2 (Nat.le_refl _) ((RA.out.after B).there.mono (fun _ h => h.2)) Gy.out).mono ?_
   rintro e y2 ⟨⟨s2l, s2h, s2a1, s2n1, s2c1, s2a2, s2n2, s2c2, s2a3, s2n3, s2c3⟩, rfl, rd2, KQ⟩
   have RV2 := I5 (rd2.mono (fun _ _ => trivial))
   simp only [SV.val]
   clear rd2
   replace X := I5 (X.out.after KQ)
   replace Y := I5 (Y.out.after KQ)
   replace B := B.trans (KQ.mono B.size)
   clear KQ
   go_wp2_with fail
   refine (wM a.value ⟨s2l, s2h, s2a1, s2n1, s2c1, s2a2, s2n2, s2c2, s2a3, s2n3, s2c3⟩ y2 RV2.out (by have h1 := mT a 0 Gy.out; have h2 := lH a; have h3 := Lb.out; omega)).mono ?_
   rintro e y3 EU
   obtain ⟨v2, rfl, ob2, KP⟩ := EU
   obtain ⟨ql, qj, rfl, -⟩ := ob2.sl
   obtain ⟨n2, gk⟩ : ∃ n, n = formT a := ⟨_, rfl⟩
   have iu := I5 gk
   rw [show a.value.form.length = n2 from gk.symm]
   have aK : n2 ≤ 100000000 := by rw [gk]; have h1 := mT a 0 Gy.out; have h2 := lH a; have h3 := Lb.out; unfold formT; omega
   clear gk ob2
   replace X := I5 (X.out.after KP)
   replace Y := I5 (Y.out.after KP)
   replace B := B.trans (KP.mono B.size)
   clear KP
   by_cases h8 : 800 < n2
   case pos =>
    have h8i : decide ((800 : Int) < n2) = true := decide_eq_true (by omega)
    have HF : Hid (R = true) := I5 (by rw [HD.out, ← iu.out, decide_eq_true h8]; simp)
    go_wp2_with fail
    go_ret
    exact ⟨by rw [HF.out] <;> rfl, B⟩
   have h8i : decide ((800 : Int) < n2) = false := decide_eq_false (by omega)
   go_wp2_with (refine ab rfl 29 _ rfl Y.out (by rfl) Tryz.underlying29 rfl (by kernel_rfl) ?_)
   refine (I6 b ⟨dU, ej, fd, ft, fI, eS, fH, bo, eB, eA, fm, fe, fk, eD, eC, fq, ff, fp⟩ 0 y3.heap.size y3 (Nat.le_refl _) ((RB.out.after B).there.mono (fun _ h => h.2)) Gx.out).mono ?_
   rintro e y4 ⟨⟨s4l, s4h, s4a1, s4n1, s4c1, s4a2, s4n2, s4c2, s4a3, s4n3, s4c3⟩, rfl, rd4, KJ⟩
   have RV4 := I5 (rd4.mono (fun _ _ => trivial))
   simp only [SV.val]
   clear rd4
   replace X := I5 (X.out.after KJ)
   replace Y := I5 (Y.out.after KJ)
   replace B := B.trans (KJ.mono B.size)
   clear KJ
   go_wp2_with fail
   refine (wM b.value ⟨s4l, s4h, s4a1, s4n1, s4c1, s4a2, s4n2, s4c2, s4a3, s4n3, s4c3⟩ y4 RV4.out (by have h1 := mT b 0 Gx.out; have h2 := lH b; have h3 := La.out; omega)).mono ?_
   rintro e y5 Lg
   obtain ⟨v4, rfl, ob4, KI⟩ := Lg
   obtain ⟨fa4, fc4, rfl, -⟩ := ob4.sl
   obtain ⟨n4, KG⟩ : ∃ n, n = formT b := ⟨_, rfl⟩
   have Fs := I5 KG
   rw [show b.value.form.length = n4 from KG.symm]
   have Kf : n4 ≤ 100000000 := by rw [KG]; have h1 := mT b 0 Gx.out; have h2 := lH b; have h3 := La.out; unfold formT; omega
   clear KG ob4
   replace X := I5 (X.out.after KI)
   replace Y := I5 (Y.out.after KI)
   replace B := B.trans (KI.mono B.size)
   clear KI
   by_cases h9 : 800 < n4
   case pos =>
    have h9i : decide ((800 : Int) < n4) = true := decide_eq_true (by omega)
    have HF : Hid (R = true) := I5 (by rw [HD.out, ← Fs.out, decide_eq_true h9]; simp)
    go_wp2_with fail
    go_ret
    exact ⟨by rw [HF.out] <;> rfl, B⟩
   have h9i : decide ((800 : Int) < n4) = false := decide_eq_false (by omega)
   have HF : Hid (R = false) := I5 (by rw [HD.out, ← iu.out, ← Fs.out, decide_eq_false h8, decide_eq_false h9]; rfl)
   go_wp2_with fail
   go_ret
   exact ⟨by rw [HF.out] <;> rfl, B⟩
theorem Ji (t : Tg) (v : Sx) (h : t.kd = 4) : t.allows v = t.ks.any fun x => x.allows v := by
 obtain ⟨kd, da, ks, r⟩ := t
 obtain rfl : kd = 4 := h
 rw [mI, if_neg (by decide), if_pos rfl, nk]
 rfl
theorem JT (t : Tg) (v : Sx) (h : t.kd = 1) : t.allows v = true := by
 obtain ⟨kd, da, ks, r⟩ := t
 obtain rfl : kd = 1 := h
 rw [mI, if_pos rfl]
theorem Jr (t : Tg) (v : Sx) (h : t.kd = 3) : t.allows v = true ↔ v.l = true ∧ ∃ hl : t.ks.length ≤ v.ks.length, ∀ i (h : i < t.ks.length), t.ks[i].allows (v.ks[i]'(by omega)) = true := by
 obtain ⟨kd, da, ks, r⟩ := t
 obtain rfl : kd = 3 := h
 rw [mI, if_neg (by decide), if_neg (by decide), if_pos rfl]
 simp only [Bool.and_eq_true, decide_eq_true_eq]
 constructor
 ·rintro ⟨⟨h1, h2⟩, h3⟩
  exact ⟨h1, h2, (kU h2).1 h3⟩
 ·rintro ⟨h1, h2, h3⟩
  exact ⟨⟨h1, h2⟩, (kU h2).2 h3⟩
theorem JM (t : Tg) (v : Sx) (h1 : t.kd ≠ 1) (h4 : t.kd ≠ 4) (h3 : t.kd ≠ 3) : t.allows v = (!v.l && takesT t v.da) := by
 obtain ⟨kd, da, ks, r⟩ := t
 rw [mI, if_neg (show ¬ kd = 1 from h1), if_neg (show ¬ kd = 4 from h4), if_neg (show ¬ kd = 3 from h3)]
 rfl
theorem Kp {t : Tg} (v : Sx) (h : t.none? = true) : t.allows v = false := by
 unfold Tg.none? at h
 simp only [Bool.and_eq_true, beq_iff_eq] at h
 rw [Ji t v h.1, List.eq_nil_of_length_eq_zero h.2]
 rfl
theorem JZ {b f : List UInt8} : prefB b f = true ↔ f <+: b := by
 unfold prefB
 simp only [Bool.and_eq_true, decide_eq_true_eq, beq_iff_eq]
 exact ⟨fun h => List.prefix_iff_eq_take.2 h.2.symm, fun h => ⟨h.length_le, (List.prefix_iff_eq_take.1 h).symm⟩⟩
theorem JD {a b c : List UInt8} (h1 : prefB a b = true) (h2 : prefB b c = true) : prefB a c = true := by
 rw [JZ] at *
 exact h2.trans h1
theorem Jg (t : Tg) (b : List UInt8) : takesT t b = (if t.kd = 2 then t.da == b else if t.kd = 5 then prefB b t.da else decide (t.kd = 6) && inB t.r b) := rfl
theorem Kg {t : Tg} {b : List UInt8} (h : takesT t b = true) : t.kd = 2 ∨ t.kd = 5 ∨ t.kd = 6 := by
 rw [Jg] at h
 split at h
 ·exact .inl ‹_›
 split at h
 ·exact .inr (.inl ‹_›)
 ·simp only [Bool.and_eq_true, decide_eq_true_eq] at h; exact .inr (.inr h.1)
theorem JY {t : Tg} {b : List UInt8} (hk : t.kd = 2) : takesT t b = true ↔ t.da = b := by rw [Jg, if_pos hk]; simp
theorem Js {t : Tg} {b : List UInt8} (hk : t.kd = 5) : takesT t b = prefB b t.da := by rw [Jg, if_neg (by omega), if_pos hk]
theorem Jx {t : Tg} {b : List UInt8} (hk : t.kd = 6) : takesT t b = inB t.r b := by rw [Jg, if_neg (by omega), if_neg (by omega), decide_eq_true hk]; rfl
theorem DD {t : Tg} (v : Sx) (hk : t.kd = 2 ∨ t.kd = 5 ∨ t.kd = 6) : t.allows v = (!v.l && takesT t v.da) := JM t v (by omega) (by omega) (by omega)
theorem JA {a b : Bool} (h : (!a && b) = true) : a = false ∧ b = true := by cases a <;> simp_all
def allT : Tg := .mk 1 [] [] noR
theorem Ko : allT.may = true := by decide +kernel
theorem Kl : allT.wide 0 = false := by decide +kernel
theorem Jy {a b : Tg} (h : greatB a b = false) : a.great 0 = false ∧ b.great 0 = false := by
 unfold greatB at h
 simp only [Bool.or_eq_false_iff] at h
 exact ⟨h.1.1.1, h.1.1.2⟩
end Go.Proofs.YtmmkaclmgnpplaaGreatDoor

import Derived.Test.YtmmkaclmgnpplaaGreatDoorMz41
import Derived.Test.YtmmkaclmgnpplaaGreatDoorMz42
set_option maxRecDepth 100000
set_option maxHeartbeats 64000000
set_option linter.unusedSimpArgs false
set_option linter.unusedVariables false
namespace Go.Proofs.YtmmkaclmgnpplaaGreatDoor
open Go.RowKit
theorem jl (V E : Nat) (w : World) :
  CallsD Tryz.prog 29 #[.pointer (some ⟨V, 0, none⟩), .pointer (some ⟨E, 0, none⟩)] .returning w fun e u' w' => e = .returned (.tuple #[]) ∧ u' = .returning ∧ w' = w := by
 refine callsD_of_wpS Tryz.func29 rfl fun c₀ cs hu => ?_
 apply wpS_seq
 apply wpS_region
 simp [wpOpsS, go_sem, recoverD, hu, Tryz.ntmps29, Exit.thenS]
 refine wpS_of_wp ?_
 go_wp2_with fail
 cases c₀
 simp_all [bodyPostS, results, Tryz.results29]
theorem pV (V E : Nat) (older : List PanicEntry) (w : World) (vc : Array Value) (hV : Box w V 29 vc) (FZ : vc.size = 10) (z2 : Int) (hE : Box w E 39 #[.int .i64 z2]) (DC : V ≠ E) :
  CallsD Tryz.prog 29 #[.pointer (some ⟨V, 0, none⟩), .pointer (some ⟨E, 0, none⟩)] (.panicking ({ v := .iface 51 (.agg #[]), recovered := false } :: older)) w fun e u' w' =>
   e = .returned (.tuple #[]) ∧ u' = .panicking ({ v := .iface 51 (.agg #[]), recovered := true } :: older) ∧ Box w' V 29 #[.int .u8 0, .slice none 0 0, .slice none 0 0, .int .u8 0, .bool false, .bool false, .slice none 0 0, .bool false, .bool false, .slice none 0 0] ∧ Box w' E 39 #[.int .i64 4] ∧ But (fun k => k = V ∨ k = E) w w' := by
 refine callsD_of_wpS Tryz.func29 rfl fun c₀ cs hu => ?_
 have HV := I5 hV
 have HE := I5 hE
 have Gz := I5 FZ
 have Iu : ∀ w, (Instr.typeAssert (.iface 51 (.agg #[])) 20 51 true).run Tryz.prog w = .ok (.tuple #[.agg #[], .bool true]) w := fun _ => by kernel_rfl
 apply wpS_seq
 apply wpS_region
 simp [wpOpsS, go_sem, recoverD, hu, Tryz.ntmps29, Exit.thenS]
 refine wpS_of_wp ?_
 have Y0 := Box.new w 51 #[]
 have IT := hV.lt
 have IV := hE.lt
 clear hV hE FZ
 change Code.wp _ _ _ { tmps := #[.pointer (some ⟨V, 0, none⟩), .pointer (some ⟨E, 0, none⟩), .iface 51 (.agg #[]), undef, undef, .iface 51 (.agg #[]), undef, undef, undef, undef, undef, undef, undef, undef, undef, undef, undef], defers := [] } w
 go_upto_region 3 with (refine ac (cells := #[]) rfl 51 _ _ rfl Y0 (by rfl) (by rfl) rfl (by kernel_rfl) (by simp [Value.oneCell']) ?_; intro u8 X8 st8)
 have er : Hid (But (fun _ => False) w u8) := I5 (But.ofBelow (st8.below w.heap.size w (Nat.le_refl _) ((Below.refl _ _).alloc (Nat.le_refl _) _)))
 replace HV := I5 (er.out.box HV.out (fun h => h))
 replace HE := I5 (er.out.box HE.out (fun h => h))
 clear st8 Y0 X8
 go_wp2_with (refine ac (cells := #[.int .u8 0, .slice none 0 0, .slice none 0 0, .int .u8 0, .bool false, .bool false, .slice none 0 0, .bool false, .bool false, .slice none 0 0]) rfl 29 _ _ rfl HV.out (by rfl) (by rfl) (by have := Gz.out; simpa using this) (by kernel_rfl) (by simp [Value.oneCell']) ?_; intro u9 X9 st9; have e9 := (st9.box HE.out (fun e => DC e.symm)).cell 0 rfl; have fe9 := (st9.box HE.out (fun e => DC e.symm)).frozen 0)
 have b9 : But (fun k => k = V) u8 u9 := But.ofStored st9 (st9.below 0 u8 (Nat.zero_le _) (Below.refl _ _))
 have E9 := (st9.box HE.out (fun e => DC e.symm)).set 0 (.int .i64 4)
 have V9 := X9.far ⟨E, 0, none⟩ (.int .i64 4) DC
 have B9 : But (fun k => k = V ∨ k = E) w (u9.setCell ⟨E, 0, none⟩ (.int .i64 4)) := (((er.out.mono (fun k hk => hk.elim)).trans b9 (fun k hk => .inl (.inl hk))).setCell (p := ⟨E, 0, none⟩) (.inl (.inr rfl)) _)
 generalize (u9.setCell ⟨E, 0, none⟩ (.int .i64 4)) = u7 at *
 replace E9 : Box u7 E 39 #[.int .i64 4] := E9
 clear HV HE er st9 X9 e9 fe9 b9 Gz
 cases c₀
 simp_all [bodyPostS, results, Tryz.results29]
def zeroT : Tg := .mk 0 [] [] noR
def MR (a b t : Tg) (x : Nat) : Prop := ((a.may && b.may) = false ∧ x = 13 ∧ t = zeroT) ∨ ((a.may && b.may) = true ∧ meetF (a.count + b.count) a b 0 = none ∧ x = 4 ∧ t = zeroT) ∨ ((a.may && b.may) = true ∧ (∃ q, meetF (a.count + b.count) a b 0 = some (t, q)) ∧ x = 0)
def MeetR (a b : Tg) (w : World) (e : Ending) (w' : World) : Prop := ∃ (u : TV) (x : Nat) (t : Tg), MR a b t x ∧ e = .returned (.tuple #[u.val, .int .i64 x]) ∧ RdT (fun b => w.heap.size ≤ b) w' u t ∧ Below w.heap.size w w'
theorem xz (a b : Tg) (va vb : TV) (w : World) (ha : RdT (fun _ => True) w va a) (hb : RdT (fun _ => True) w vb b) (FX : a.wide 0 = false) (FW : b.wide 0 = false) (ht : Tab w) :
  Calls Tryz.prog 13 #[va.val, vb.val] w (MeetR a b w) := by
 have RA := I5 ha
 have RB := I5 hb
 have HT := I5 ht
 have Gy := I5 FX
 have Gx := I5 FW
 clear ha hb ht FX FW
 have Dv : ∀ (fn : Fn) (first cap : Array Value) (w : World), (Instr.makeFunc fn first cap).run Tryz.prog w = .ok (.func fn first cap) w := fun _ _ _ _ => rfl
 obtain ⟨du, eJ, dV, eI, eU, dN, eT, ao, dZ, dY, eF, ek, eE, d8, d7, eH, em, eG⟩ := va
 obtain ⟨dU, ej, fd, ft, fI, eS, fH, bo, eB, eA, fm, fe, fk, eD, eC, fq, ff, fp⟩ := vb
 let x0 := ((((w.alloc (.cells #[.int .u8 du, .slice eJ dV eI, .slice eU dN eT, .int .u8 ao, .bool dZ, .bool dY, .slice eF ek eE, .bool d8, .bool d7, .slice eH em eG] 29)).alloc (.cells #[.int .u8 dU, .slice ej fd ft, .slice fI eS fH, .int .u8 bo, .bool eB, .bool eA, .slice fm fe fk, .bool eD, .bool eC, .slice fq ff fp] 29)).alloc (.cells #[.int .u8 0, .slice none 0 0, .slice none 0 0, .int .u8 0, .bool false, .bool false, .slice none 0 0, .bool false, .bool false, .slice none 0 0] 29)).alloc (.cells #[.int .i64 0] 39))
 have B : Below w.heap.size w x0 := ((((Below.refl _ _).alloc (Nat.le_refl _) _).alloc (by simp [x0, x0]) _).alloc (by simp [x0, x0]; omega) _).alloc (by simp [x0, x0]; omega) _
 have X : Hid (Box x0 w.heap.size 29 #[.int .u8 du, .slice eJ dV eI, .slice eU dN eT, .int .u8 ao, .bool dZ, .bool dY, .slice eF ek eE, .bool d8, .bool d7, .slice eH em eG]) := I5 ((((Box.new _ _ _).alloc _).alloc _).alloc _)
 have Y : Hid (Box x0 (w.heap.size + 1) 29 #[.int .u8 dU, .slice ej fd ft, .slice fI eS fH, .int .u8 bo, .bool eB, .bool eA, .slice fm fe fk, .bool eD, .bool eC, .slice fq ff fp]) := I5 (by
  have := ((Box.new (w.alloc (.cells #[.int .u8 du, .slice eJ dV eI, .slice eU dN eT, .int .u8 ao, .bool dZ, .bool dY, .slice eF ek eE, .bool d8, .bool d7, .slice eH em eG] 29)) 29 #[.int .u8 dU, .slice ej fd ft, .slice fI eS fH, .int .u8 bo, .bool eB, .bool eA, .slice fm fe fk, .bool eD, .bool eC, .slice fq ff fp]).alloc (.cells #[.int .u8 0, .slice none 0 0, .slice none 0 0, .int .u8 0, .bool false, .bool false, .slice none 0 0, .bool false, .bool false, .slice none 0 0] 29)).alloc (.cells #[.int .i64 0] 39)
  simpa [x0] using this)
 have Z : Hid (Box x0 (w.heap.size + 2) 29 #[.int .u8 0, .slice none 0 0, .slice none 0 0, .int .u8 0, .bool false, .bool false, .slice none 0 0, .bool false, .bool false, .slice none 0 0]) := I5 (by
  have := (Box.new ((w.alloc (.cells #[.int .u8 du, .slice eJ dV eI, .slice eU dN eT, .int .u8 ao, .bool dZ, .bool dY, .slice eF ek eE, .bool d8, .bool d7, .slice eH em eG] 29)).alloc (.cells #[.int .u8 dU, .slice ej fd ft, .slice fI eS fH, .int .u8 bo, .bool eB, .bool eA, .slice fm fe fk, .bool eD, .bool eC, .slice fq ff fp] 29)) 29 #[.int .u8 0, .slice none 0 0, .slice none 0 0, .int .u8 0, .bool false, .bool false, .slice none 0 0, .bool false, .bool false, .slice none 0 0]).alloc (.cells #[.int .i64 0] 39)
  simpa [x0] using this)
 have E : Hid (Box x0 (w.heap.size + 3) 39 #[.int .i64 0]) := I5 (by
  have := Box.new (((w.alloc (.cells #[.int .u8 du, .slice eJ dV eI, .slice eU dN eT, .int .u8 ao, .bool dZ, .bool dY, .slice eF ek eE, .bool d8, .bool d7, .slice eH em eG] 29)).alloc (.cells #[.int .u8 dU, .slice ej fd ft, .slice fI eS fH, .int .u8 bo, .bool eB, .bool eA, .slice fm fe fk, .bool eD, .bool eC, .slice fq ff fp] 29)).alloc (.cells #[.int .u8 0, .slice none 0 0, .slice none 0 0, .int .u8 0, .bool false, .bool false, .slice none 0 0, .bool false, .bool false, .slice none 0 0] 29)) 39 #[.int .i64 0]
  simpa [x0] using this)
 simp only [TV.val]
 show Calls _ _ #[.agg #[.int .u8 du, .slice eJ dV eI, .slice eU dN eT, .int .u8 ao, .bool dZ, .bool dY, .slice eF ek eE, .bool d8, .bool d7, .slice eH em eG], .agg #[.int .u8 dU, .slice ej fd ft, .slice fI eS fH, .int .u8 bo, .bool eB, .bool eA, .slice fm fe fk, .bool eD, .bool eC, .slice fq ff fp]] _ _
 go_enter_defers Tryz.func13, Tryz.ntmps13
 go_upto_region 1 with fail
 change Code.wp _ _ _ _ x0
 clear_value x0
 obtain ⟨ma, Ej⟩ : ∃ m, m = a.may := ⟨_, rfl⟩
 obtain ⟨mb, uu⟩ : ∃ m, m = b.may := ⟨_, rfl⟩
 have DJ := I5 Ej
 have DI := I5 uu
 have Bp := I5 (fun w' (h : Below w.heap.size w w') => jQ a ⟨du, eJ, dV, eI, eU, dN, eT, ao, dZ, dY, eF, ek, eE, d8, d7, eH, em, eG⟩ 0 w' ((RA.out.after h).mono (fun _ _ => trivial)) Gy.out (HT.out.after h))
 rw [← Ej] at Bp
 have BP := I5 (fun w' (h : Below w.heap.size w w') => jQ b ⟨dU, ej, fd, ft, fI, eS, fH, bo, eB, eA, fm, fe, fk, eD, eC, fq, ff, fp⟩ 0 w' ((RB.out.after h).mono (fun _ _ => trivial)) Gx.out (HT.out.after h))
 rw [← uu] at BP
 clear Ej uu
 have FQ := E.out.lt
 go_upto_region 2 with fail
 cases ma with
 | false =>
  go_step
  refine bC 8 x0.heap.size x0 (Below.refl _ _) ?_
  simp only [List.take_succ_cons, List.take_zero, List.drop_succ_cons, List.drop_zero]
  refine aU rfl 29 _ rfl X.out (by rfl) X.out.lt Tryz.underlying29 rfl (by kernel_rfl) ?_
  simp only [Act.put, I2, I3, I4]
  refine be rfl 20 #[.agg #[.int .u8 du, .slice eJ dV eI, .slice eU dN eT, .int .u8 ao, .bool dZ, .bool dY, .slice eF ek eE, .bool d8, .bool d7, .slice eH em eG]] (fun w' => by simp [go_sem]) (.bool false) (Nat.le_refl _) (fun w' hw => Bp.out w' (B.trans (hw.mono B.size))) ?_
  simp only [Act.put, I2, I3, I4]
  refine aa rfl (.bool true) (fun w' hw => by simp [go_sem]) ?_
  simp only [Act.put, I2, I3, I4]
  refine aa rfl (.bool true) (fun w' hw => by simp [go_sem]) ?_
  simp only [Act.put, I2, I3, I4]
  refine aj rfl ?_
  simp only [Act.put, I2, I3, I4]
  refine aj rfl ?_
  simp only [Act.put, I2, I3, I4]
  refine aj rfl ?_
  simp only [Act.put, I2, I3, I4]
  refine aa rfl (.bool true) (fun w' hw => by simp [go_sem]) ?_
  simp only [Act.put, I2, I3, I4]
  intro y1 af
  replace X := I5 (X.out.after af)
  replace Y := I5 (Y.out.after af)
  replace Z := I5 (Z.out.after af)
  replace E := I5 (E.out.after af)
  replace B := B.trans (af.mono B.size)
  clear af
  have yw := E.out.lt
  clear Bp BP
  go_wp2_with (refine ac (cells := #[.int .u8 0, .slice none 0 0, .slice none 0 0, .int .u8 0, .bool false, .bool false, .slice none 0 0, .bool false, .bool false, .slice none 0 0]) rfl 29 _ _ rfl Z.out (by rfl) (by rfl) rfl (by kernel_rfl) (by simp [Value.oneCell']) ?_; intro u9 X9 st9; have e9 := (st9.box E.out (by omega)).cell 0 rfl; have fe9 := (st9.box E.out (by omega)).frozen 0)
  have b9 : Below w.heap.size w (u9.setCell ⟨w.heap.size + 1 + 1 + 1, 0, none⟩ (.int .i64 13)) := (st9.below w.heap.size w (by omega) B).setCell (p := ⟨w.heap.size + 1 + 1 + 1, 0, none⟩) (by show w.heap.size ≤ w.heap.size + 1 + 1 + 1; omega) _
  have V9 : Box (u9.setCell ⟨w.heap.size + 1 + 1 + 1, 0, none⟩ (.int .i64 13)) (w.heap.size + 1 + 1) 29 #[.int .u8 0, .slice none 0 0, .slice none 0 0, .int .u8 0, .bool false, .bool false, .slice none 0 0, .bool false, .bool false, .slice none 0 0] := X9.far ⟨w.heap.size + 1 + 1 + 1, 0, none⟩ (.int .i64 13) (by show w.heap.size + 2 ≠ w.heap.size + 1 + 1 + 1; omega)
  have E9 : Box (u9.setCell ⟨w.heap.size + 1 + 1 + 1, 0, none⟩ (.int .i64 13)) (w.heap.size + 1 + 1 + 1) 39 #[.int .i64 13] := (st9.box E.out (by omega)).set 0 (.int .i64 13)
  generalize (u9.setCell ⟨w.heap.size + 1 + 1 + 1, 0, none⟩ (.int .i64 13)) = u8 at *
  have cc0 : u8.cell? ⟨w.heap.size + 1 + 1, 0, none⟩ = some (.int .u8 0) := V9.cell 0 rfl
  have xr : u8.cell? ⟨w.heap.size + 1 + 1, 1, none⟩ = some (.slice none 0 0) := V9.cell 1 rfl
  have xq : u8.cell? ⟨w.heap.size + 1 + 1, 2, none⟩ = some (.slice none 0 0) := V9.cell 2 rfl
  have xp : u8.cell? ⟨w.heap.size + 1 + 1, 3, none⟩ = some (.int .u8 0) := V9.cell 3 rfl
  have cc4 : u8.cell? ⟨w.heap.size + 1 + 1, 4, none⟩ = some (.bool false) := V9.cell 4 rfl
  have cc5 : u8.cell? ⟨w.heap.size + 1 + 1, 5, none⟩ = some (.bool false) := V9.cell 5 rfl
  have cc6 : u8.cell? ⟨w.heap.size + 1 + 1, 6, none⟩ = some (.slice none 0 0) := V9.cell 6 rfl
  have cc7 : u8.cell? ⟨w.heap.size + 1 + 1, 7, none⟩ = some (.bool false) := V9.cell 7 rfl
  have cc8 : u8.cell? ⟨w.heap.size + 1 + 1, 8, none⟩ = some (.bool false) := V9.cell 8 rfl
  have cc9 : u8.cell? ⟨w.heap.size + 1 + 1, 9, none⟩ = some (.slice none 0 0) := V9.cell 9 rfl
  have ce : u8.cell? ⟨w.heap.size + 1 + 1 + 1, 0, none⟩ = some (.int .i64 13) := E9.cell 0 rfl
  refine leaves_cons (f := 29) (args := #[.pointer (some ⟨w.heap.size + 1 + 1, 0, none⟩), .pointer (some ⟨w.heap.size + 1 + 1 + 1, 0, none⟩)]) (by simp) (by simp [go_sem]) ?_
  refine (jl _ _ _).mono ?_
  rintro e u' w'' ⟨rfl, rfl, rfl⟩
  simp [Leaves, settle, results, Tryz.results13, go_sem, cc0, xr, xq, xp, cc4, cc5, cc6, cc7, cc8, cc9, ce]
  exact ⟨⟨0, none, 0, 0, none, 0, 0, 0, false, false, none, 0, 0, false, false, none, 0, 0⟩, 13, zeroT, .inl ⟨by rw [← DJ.out, ← DI.out]; rfl, rfl, rfl⟩, rfl, iB _ _ 0 (by omega) none 0 0 [] (Sl.nil _) (.inl rfl), b9⟩
 | true =>
  cases mb with
  | false =>
   go_step
   refine bC 8 x0.heap.size x0 (Below.refl _ _) ?_
   simp only [List.take_succ_cons, List.take_zero, List.drop_succ_cons, List.drop_zero]
   refine aU rfl 29 _ rfl X.out (by rfl) X.out.lt Tryz.underlying29 rfl (by kernel_rfl) ?_
   simp only [Act.put, I2, I3, I4]
   refine be rfl 20 #[.agg #[.int .u8 du, .slice eJ dV eI, .slice eU dN eT, .int .u8 ao, .bool dZ, .bool dY, .slice eF ek eE, .bool d8, .bool d7, .slice eH em eG]] (fun w' => by simp [go_sem]) (.bool true) (Nat.le_refl _) (fun w' hw => Bp.out w' (B.trans (hw.mono B.size))) ?_
   simp only [Act.put, I2, I3, I4]
   refine aa rfl (.bool false) (fun w' hw => by simp [go_sem]) ?_
   simp only [Act.put, I2, I3, I4]
   refine aa rfl (.bool false) (fun w' hw => by simp [go_sem]) ?_
   simp only [Act.put, I2, I3, I4]
   refine aU rfl 29 _ rfl Y.out (by rfl) Y.out.lt Tryz.underlying29 rfl (by kernel_rfl) ?_
   simp only [Act.put, I2, I3, I4]
   refine be rfl 20 #[.agg #[.int .u8 dU, .slice ej fd ft, .slice fI eS fH, .int .u8 bo, .bool eB, .bool eA, .slice fm fe fk, .bool eD, .bool eC, .slice fq ff fp]] (fun w' => by simp [go_sem]) (.bool false) (Nat.le_refl _) (fun w' hw => BP.out w' (B.trans (hw.mono B.size))) ?_
   simp only [Act.put, I2, I3, I4]
   refine aa rfl (.bool true) (fun w' hw => by simp [go_sem]) ?_
   simp only [Act.put, I2, I3, I4]
   refine aa rfl (.bool true) (fun w' hw => by simp [go_sem]) ?_
   simp only [Act.put, I2, I3, I4]
   intro y1 af
   replace X := I5 (X.out.after af)
   replace Y := I5 (Y.out.after af)
   replace Z := I5 (Z.out.after af)
   replace E := I5 (E.out.after af)
   replace B := B.trans (af.mono B.size)
   clear af
   have yw := E.out.lt
   clear Bp BP
   go_wp2_with (refine ac (cells := #[.int .u8 0, .slice none 0 0, .slice none 0 0, .int .u8 0, .bool false, .bool false, .slice none 0 0, .bool false, .bool false, .slice none 0 0]) rfl 29 _ _ rfl Z.out (by rfl) (by rfl) rfl (by kernel_rfl) (by simp [Value.oneCell']) ?_; intro u9 X9 st9; have e9 := (st9.box E.out (by omega)).cell 0 rfl; have fe9 := (st9.box E.out (by omega)).frozen 0)
   have b9 : Below w.heap.size w (u9.setCell ⟨w.heap.size + 1 + 1 + 1, 0, none⟩ (.int .i64 13)) := (st9.below w.heap.size w (by omega) B).setCell (p := ⟨w.heap.size + 1 + 1 + 1, 0, none⟩) (by show w.heap.size ≤ w.heap.size + 1 + 1 + 1; omega) _
   have V9 : Box (u9.setCell ⟨w.heap.size + 1 + 1 + 1, 0, none⟩ (.int .i64 13)) (w.heap.size + 1 + 1) 29 #[.int .u8 0, .slice none 0 0, .slice none 0 0, .int .u8 0, .bool false, .bool false, .slice none 0 0, .bool false, .bool false, .slice none 0 0] := X9.far ⟨w.heap.size + 1 + 1 + 1, 0, none⟩ (.int .i64 13) (by show w.heap.size + 2 ≠ w.heap.size + 1 + 1 + 1; omega)
   have E9 : Box (u9.setCell ⟨w.heap.size + 1 + 1 + 1, 0, none⟩ (.int .i64 13)) (w.heap.size + 1 + 1 + 1) 39 #[.int .i64 13] := (st9.box E.out (by omega)).set 0 (.int .i64 13)
   generalize (u9.setCell ⟨w.heap.size + 1 + 1 + 1, 0, none⟩ (.int .i64 13)) = u8 at *
   have cc0 : u8.cell? ⟨w.heap.size + 1 + 1, 0, none⟩ = some (.int .u8 0) := V9.cell 0 rfl
   have xr : u8.cell? ⟨w.heap.size + 1 + 1, 1, none⟩ = some (.slice none 0 0) := V9.cell 1 rfl
   have xq : u8.cell? ⟨w.heap.size + 1 + 1, 2, none⟩ = some (.slice none 0 0) := V9.cell 2 rfl
   have xp : u8.cell? ⟨w.heap.size + 1 + 1, 3, none⟩ = some (.int .u8 0) := V9.cell 3 rfl
   have cc4 : u8.cell? ⟨w.heap.size + 1 + 1, 4, none⟩ = some (.bool false) := V9.cell 4 rfl
   have cc5 : u8.cell? ⟨w.heap.size + 1 + 1, 5, none⟩ = some (.bool false) := V9.cell 5 rfl
   have cc6 : u8.cell? ⟨w.heap.size + 1 + 1, 6, none⟩ = some (.slice none 0 0) := V9.cell 6 rfl
   have cc7 : u8.cell? ⟨w.heap.size + 1 + 1, 7, none⟩ = some (.bool false) := V9.cell 7 rfl
   have cc8 : u8.cell? ⟨w.heap.size + 1 + 1, 8, none⟩ = some (.bool false) := V9.cell 8 rfl
   have cc9 : u8.cell? ⟨w.heap.size + 1 + 1, 9, none⟩ = some (.slice none 0 0) := V9.cell 9 rfl
   have ce : u8.cell? ⟨w.heap.size + 1 + 1 + 1, 0, none⟩ = some (.int .i64 13) := E9.cell 0 rfl
   refine leaves_cons (f := 29) (args := #[.pointer (some ⟨w.heap.size + 1 + 1, 0, none⟩), .pointer (some ⟨w.heap.size + 1 + 1 + 1, 0, none⟩)]) (by simp) (by simp [go_sem]) ?_
   refine (jl _ _ _).mono ?_
   rintro e u' w'' ⟨rfl, rfl, rfl⟩
   simp [Leaves, settle, results, Tryz.results13, go_sem, cc0, xr, xq, xp, cc4, cc5, cc6, cc7, cc8, cc9, ce]
   exact ⟨⟨0, none, 0, 0, none, 0, 0, 0, false, false, none, 0, 0, false, false, none, 0, 0⟩, 13, zeroT, .inl ⟨by rw [← DJ.out, ← DI.out]; rfl, rfl, rfl⟩, rfl, iB _ _ 0 (by omega) none 0 0 [] (Sl.nil _) (.inl rfl), b9⟩
  | true =>
   go_step
   refine bC 8 x0.heap.size x0 (Below.refl _ _) ?_
   simp only [List.take_succ_cons, List.take_zero, List.drop_succ_cons, List.drop_zero]
   refine aU rfl 29 _ rfl X.out (by rfl) X.out.lt Tryz.underlying29 rfl (by kernel_rfl) ?_
   simp only [Act.put, I2, I3, I4]
   refine be rfl 20 #[.agg #[.int .u8 du, .slice eJ dV eI, .slice eU dN eT, .int .u8 ao, .bool dZ, .bool dY, .slice eF ek eE, .bool d8, .bool d7, .slice eH em eG]] (fun w' => by simp [go_sem]) (.bool true) (Nat.le_refl _) (fun w' hw => Bp.out w' (B.trans (hw.mono B.size))) ?_
   simp only [Act.put, I2, I3, I4]
   refine aa rfl (.bool false) (fun w' hw => by simp [go_sem]) ?_
   simp only [Act.put, I2, I3, I4]
   refine aa rfl (.bool false) (fun w' hw => by simp [go_sem]) ?_
   simp only [Act.put, I2, I3, I4]
   refine aU rfl 29 _ rfl Y.out (by rfl) Y.out.lt Tryz.underlying29 rfl (by kernel_rfl) ?_
   simp only [Act.put, I2, I3, I4]
   refine be rfl 20 #[.agg #[.int .u8 dU, .slice ej fd ft, .slice fI eS fH, .int .u8 bo, .bool eB, .bool eA, .slice fm fe fk, .bool eD, .bool eC, .slice fq ff fp]] (fun w' => by simp [go_sem]) (.bool true) (Nat.le_refl _) (fun w' hw => BP.out w' (B.trans (hw.mono B.size))) ?_
   simp only [Act.put, I2, I3, I4]
   refine aa rfl (.bool false) (fun w' hw => by simp [go_sem]) ?_
   simp only [Act.put, I2, I3, I4]
   refine aa rfl (.bool false) (fun w' hw => by simp [go_sem]) ?_
   simp only [Act.put, I2, I3, I4]
   intro y1 af
   replace X := I5 (X.out.after af)
   replace Y := I5 (Y.out.after af)
   replace Z := I5 (Z.out.after af)
   replace E := I5 (E.out.after af)
   replace B := B.trans (af.mono B.size)
   clear af
   have yw := E.out.lt
   clear Bp BP
   have FA := I5 (Fit.of_may Gy.out DJ.out.symm)
   have FB := I5 (Fit.of_may Gx.out DI.out.symm)
   have GG : Hid ((a.may && b.may) = true) := I5 (by rw [← DJ.out, ← DI.out]; rfl)
   have cm : Below y1.heap.size y1 (y1.alloc (.cells #[.int .i64 0] 56)) := (Below.refl _ _).alloc (Nat.le_refl _) _
   have G := I5 (Box.new y1 56 #[.int .i64 0])
   have up := B.size
   have HM := I5 (oN (a.count + b.count) a b 0 ⟨du, eJ, dV, eI, eU, dN, eT, ao, dZ, dY, eF, ek, eE, d8, d7, eH, em, eG⟩ ⟨dU, ej, fd, ft, fI, eS, fH, bo, eB, eA, fm, fe, fk, eD, eC, fq, ff, fp⟩ (y1.alloc (.cells #[.int .i64 0] 56)) y1.heap.size (fun b => b < w.heap.size) (Nat.le_refl _) FA.out FB.out ⟨G.out, Nat.zero_le _, TabX.new HT.out (B.trans (cm.mono B.size)) (fun k hk => by omega), fun b hb => Nat.lt_of_lt_of_le hb (Nat.le_trans B.size cm.size), fun h => by have h1 : y1.heap.size < w.heap.size := h; omega⟩ ((RA.out.there.mono (fun _ h => h.2)).after (B.trans (cm.mono B.size))) ((RB.out.there.mono (fun _ h => h.2)).after (B.trans (cm.mono B.size))))
   replace X := I5 (X.out.after cm)
   replace Y := I5 (Y.out.after cm)
   replace Z := I5 (Z.out.after cm)
   replace E := I5 (E.out.after cm)
   have BC := B.trans (cm.mono B.size)
   have vv := cm.size
   clear cm
   go_wp2_with first | (refine ab rfl 29 _ rfl X.out (by rfl) Tryz.underlying29 rfl (by kernel_rfl) ?_) | (refine ab rfl 29 _ rfl Y.out (by rfl) Tryz.underlying29 rfl (by kernel_rfl) ?_)
   refine HM.out.mono ?_
   rintro e w2 (⟨hr, rfl, q, hm⟩ | ⟨t, q, u, hr, hq, rfl, rt, hm⟩)
   ·have HR := I5 hr
    have B2 := hm.below BC (by omega)
    have Z2 := hm.far Z.out (by omega)
    have E2 := hm.far E.out (by omega)
    clear hr HM
    unfold LongE
    refine leaves_cons (f := 29) (args := #[.pointer (some ⟨w.heap.size + 1 + 1, 0, none⟩), .pointer (some ⟨w.heap.size + 1 + 1 + 1, 0, none⟩)]) (by simp) (by simp [go_sem]) ?_
    refine (pV (w.heap.size + 1 + 1) (w.heap.size + 1 + 1 + 1) [] w2 #[.int .u8 0, .slice none 0 0, .slice none 0 0, .int .u8 0, .bool false, .bool false, .slice none 0 0, .bool false, .bool false, .slice none 0 0] Z2 rfl 0 E2 (by omega)).mono ?_
    rintro e u' u8 ⟨rfl, rfl, V9, E9, b2⟩
    have b9 : Below w.heap.size w u8 := b2.after B2 B2.size (fun k hk => by omega)
    have cc0 : u8.cell? ⟨w.heap.size + 1 + 1, 0, none⟩ = some (.int .u8 0) := V9.cell 0 rfl
    have xr : u8.cell? ⟨w.heap.size + 1 + 1, 1, none⟩ = some (.slice none 0 0) := V9.cell 1 rfl
    have xq : u8.cell? ⟨w.heap.size + 1 + 1, 2, none⟩ = some (.slice none 0 0) := V9.cell 2 rfl
    have xp : u8.cell? ⟨w.heap.size + 1 + 1, 3, none⟩ = some (.int .u8 0) := V9.cell 3 rfl
    have cc4 : u8.cell? ⟨w.heap.size + 1 + 1, 4, none⟩ = some (.bool false) := V9.cell 4 rfl
    have cc5 : u8.cell? ⟨w.heap.size + 1 + 1, 5, none⟩ = some (.bool false) := V9.cell 5 rfl
    have cc6 : u8.cell? ⟨w.heap.size + 1 + 1, 6, none⟩ = some (.slice none 0 0) := V9.cell 6 rfl
    have cc7 : u8.cell? ⟨w.heap.size + 1 + 1, 7, none⟩ = some (.bool false) := V9.cell 7 rfl
    have cc8 : u8.cell? ⟨w.heap.size + 1 + 1, 8, none⟩ = some (.bool false) := V9.cell 8 rfl
    have cc9 : u8.cell? ⟨w.heap.size + 1 + 1, 9, none⟩ = some (.slice none 0 0) := V9.cell 9 rfl
    have ce : u8.cell? ⟨w.heap.size + 1 + 1 + 1, 0, none⟩ = some (.int .i64 4) := E9.cell 0 rfl
    simp [Leaves, settle, results, Tryz.results13, go_sem, cc0, xr, xq, xp, cc4, cc5, cc6, cc7, cc8, cc9, ce]
    exact ⟨⟨0, none, 0, 0, none, 0, 0, 0, false, false, none, 0, 0, false, false, none, 0, 0⟩, 4, zeroT, .inr (.inl ⟨GG.out, HR.out, rfl, rfl⟩), rfl, iB _ _ 0 (by omega) none 0 0 [] (Sl.nil _) (.inl rfl), b9⟩
   have HR := I5 hr
   have vn := I5 (ef _ _ _ _ _ _ FA.out FB.out hr)
   have RT := I5 rt
   have B2 := hm.below BC (by omega)
   replace Z := I5 (hm.far Z.out (by omega))
   replace E := I5 (hm.far E.out (by omega))
   have A7 := I5 (E.out.lt)
   clear hr rt hm HM X Y G
   obtain ⟨gZ, gB, gz, gA, gT, gR, fZ, uo, eu, et, eY, eW, eX, fa, eZ, fw, fu, fv⟩ := u
   simp only [TV.val]
   go_wp2_with fail
   refine (sd t ⟨gZ, gB, gz, gA, gT, gR, fZ, uo, eu, et, eY, eW, eX, fa, eZ, fw, fu, fv⟩ w2 0 (RT.out.mono (fun _ _ => trivial)) (vn.out.wide 0 (by omega))).mono ?_
   rintro e w3 ⟨⟨jz, jw, ju, jv, kA, kg, kz, zo, kk, ki, ko, kj, km, kw, ku, ky, kv, kx⟩, rfl, rz, bK⟩
   have RZ := I5 rz
   simp only [TV.val]
   have B3 := B2.trans (bK.mono B2.size)
   replace Z := I5 (Z.out.after bK)
   replace E := I5 (E.out.after bK)
   have xD := E.out.lt
   have m3 : w.heap.size + 3 < w2.heap.size := by have := A7.out; omega
   clear rz RT bK
   go_wp2_with (refine ac (cells := #[.int .u8 jz, .slice jw ju jv, .slice kA kg kz, .int .u8 zo, .bool kk, .bool ki, .slice ko kj km, .bool kw, .bool ku, .slice ky kv kx]) rfl 29 _ _ rfl Z.out (by rfl) (by rfl) rfl (by kernel_rfl) (by simp [Value.oneCell']) ?_; intro u9 X9 st9; have e9 := (st9.box E.out (by omega)).cell 0 rfl; have fe9 := (st9.box E.out (by omega)).frozen 0)
   have b9 : Below w.heap.size w (u9.setCell ⟨w.heap.size + 1 + 1 + 1, 0, none⟩ (.int .i64 0)) := (st9.below w.heap.size w (by omega) B3).setCell (p := ⟨w.heap.size + 1 + 1 + 1, 0, none⟩) (by show w.heap.size ≤ w.heap.size + 1 + 1 + 1; omega) _
   have V9 : Box (u9.setCell ⟨w.heap.size + 1 + 1 + 1, 0, none⟩ (.int .i64 0)) (w.heap.size + 1 + 1) 29 #[.int .u8 jz, .slice jw ju jv, .slice kA kg kz, .int .u8 zo, .bool kk, .bool ki, .slice ko kj km, .bool kw, .bool ku, .slice ky kv kx] := X9.far ⟨w.heap.size + 1 + 1 + 1, 0, none⟩ (.int .i64 0) (by show w.heap.size + 2 ≠ w.heap.size + 1 + 1 + 1; omega)
   have E9 : Box (u9.setCell ⟨w.heap.size + 1 + 1 + 1, 0, none⟩ (.int .i64 0)) (w.heap.size + 1 + 1 + 1) 39 #[.int .i64 0] := (st9.box E.out (by omega)).set 0 (.int .i64 0)
   have R9 : RdT (fun b => w.heap.size ≤ b) (u9.setCell ⟨w.heap.size + 1 + 1 + 1, 0, none⟩ (.int .i64 0)) ⟨jz, jw, ju, jv, kA, kg, kz, zo, kk, ki, ko, kj, km, kw, ku, ky, kv, kx⟩ t := (RZ.out.keep (fun b hb => (Below.heap_setCell _ _ _ _ (by show b ≠ w.heap.size + 1 + 1 + 1; have h1 : w2.heap.size ≤ b := hb; omega)).trans (st9.other b (by have h1 : w2.heap.size ≤ b := hb; omega)))).mono (fun b hb => by have h1 : w2.heap.size ≤ b := hb; show w.heap.size ≤ b; omega)
   generalize (u9.setCell ⟨w.heap.size + 1 + 1 + 1, 0, none⟩ (.int .i64 0)) = u8 at *
   have cc0 : u8.cell? ⟨w.heap.size + 1 + 1, 0, none⟩ = some (.int .u8 jz) := V9.cell 0 rfl
   have xr : u8.cell? ⟨w.heap.size + 1 + 1, 1, none⟩ = some (.slice jw ju jv) := V9.cell 1 rfl
   have xq : u8.cell? ⟨w.heap.size + 1 + 1, 2, none⟩ = some (.slice kA kg kz) := V9.cell 2 rfl
   have xp : u8.cell? ⟨w.heap.size + 1 + 1, 3, none⟩ = some (.int .u8 zo) := V9.cell 3 rfl
   have cc4 : u8.cell? ⟨w.heap.size + 1 + 1, 4, none⟩ = some (.bool kk) := V9.cell 4 rfl
   have cc5 : u8.cell? ⟨w.heap.size + 1 + 1, 5, none⟩ = some (.bool ki) := V9.cell 5 rfl
   have cc6 : u8.cell? ⟨w.heap.size + 1 + 1, 6, none⟩ = some (.slice ko kj km) := V9.cell 6 rfl
   have cc7 : u8.cell? ⟨w.heap.size + 1 + 1, 7, none⟩ = some (.bool kw) := V9.cell 7 rfl
   have cc8 : u8.cell? ⟨w.heap.size + 1 + 1, 8, none⟩ = some (.bool ku) := V9.cell 8 rfl
   have cc9 : u8.cell? ⟨w.heap.size + 1 + 1, 9, none⟩ = some (.slice ky kv kx) := V9.cell 9 rfl
   have ce : u8.cell? ⟨w.heap.size + 1 + 1 + 1, 0, none⟩ = some (.int .i64 0) := E9.cell 0 rfl
   refine leaves_cons (f := 29) (args := #[.pointer (some ⟨w.heap.size + 1 + 1, 0, none⟩), .pointer (some ⟨w.heap.size + 1 + 1 + 1, 0, none⟩)]) (by simp) (by simp [go_sem]) ?_
   refine (jl _ _ _).mono ?_
   rintro e u' w'' ⟨rfl, rfl, rfl⟩
   simp [Leaves, settle, results, Tryz.results13, go_sem, cc0, xr, xq, xp, cc4, cc5, cc6, cc7, cc8, cc9, ce]
   exact ⟨⟨jz, jw, ju, jv, kA, kg, kz, zo, kk, ki, ko, kj, km, kw, ku, ky, kv, kx⟩, 0, t, .inr (.inr ⟨GG.out, ⟨q, HR.out⟩, rfl⟩), rfl, R9, b9⟩
end Go.Proofs.YtmmkaclmgnpplaaGreatDoor
